import Derived.Test.YthoofldinnfpiaaPF
import Derived.Test.YthoofldinnfpiaaN62
namespace Go.Proofs.Ythoofldinnfpiaa
open Go.RowKit Go.Proofs.YthoofldinnfpiaaW.PrintWords Go.Proofs.YthoofldinnfpiaaW.PrintLast Go.Proofs.YthoofldinnfpiaaW.PrintMore
open Q Go.Shelf
attribute [local go_sem] Oper.semAt_some wide_depth wide_fn
set_option linter.unusedVariables false
set_option linter.unusedSimpArgs false
def tempsErr (kn : List S97) (fa lo hi : Int) : Int := if lehrErr kn fa = 0 then (if spanB lo hi 0 10000 = true then 0 else 1) else lehrErr kn fa
theorem checkTemps_any (A : Option Addr) (c : Nat) (kn : List S97) (fa lo hi : Int) (w : World) (hr : Kd.C k97 w A kn.length kn) :
    Calls Try.prog 61 #[.agg #[.slice A kn.length c, .int .i64 fa], .agg #[.int .i64 lo, .int .i64 hi]] w (Ends (tempsErr kn fa lo hi) w) := by
  have hu44 := Try.underlying44
  have hu29 := Try.underlying29
  have HB := Below.refl w.heap.size w
  go_enter Try.func61, Try.ntmps61
  go_wp2_with fail
  have hbel := ((HB.alloc (Nat.le_refl _) (.cells #[.slice A kn.length c, .int .i64 fa] 44)).alloc (by simp) (.cells #[.int .i64 lo, .int .i64 hi] 29))
  have e0 := World.alloc_heap_new w (.cells #[.slice A kn.length c, .int .i64 fa] 44)
  have e1 := World.alloc_heap_new (w.alloc (.cells #[.slice A kn.length c, .int .i64 fa] 44)) (.cells #[.int .i64 lo, .int .i64 hi] 29)
  have e0 := alloc_old (o' := (.cells #[.int .i64 lo, .int .i64 hi] 29)) e0
  have hsz : w.heap.size + 1 < ((w.alloc (.cells #[.slice A kn.length c, .int .i64 fa] 44)).alloc (.cells #[.int .i64 lo, .int .i64 hi] 29)).heap.size := by simp
  simp only [World.size_alloc] at e1
  generalize ((w.alloc (.cells #[.slice A kn.length c, .int .i64 fa] 44)).alloc (.cells #[.int .i64 lo, .int .i64 hi] 29)) = W0 at *
  refine (checkLehr_any A c kn fa _ (Kd.C_below hr hbel)).mono ?_
  rintro e w1 ⟨he, hb⟩
  have hb1 := hbel.trans (hb.mono hbel.size)
  have e0 := heap_grow e0 hb
  have e1 := heap_grow e1 hb
  have hsz1 : w.heap.size + 1 < w1.heap.size := Nat.lt_of_lt_of_le hsz hb.size
  clear hb hbel hsz HB
  have HB1 := hid hb1
  have d0 := blkCell e1 0
  have d1 := blkCell e1 1
  simp at d0 d1
  clear e0 e1 hb1
  by_cases h0 : ¬ lehrErr kn fa = 0
  · rw [if_neg h0] at he
    subst he
    exact ⟨rfl, by unfold tempsErr; rw [if_neg h0, if_neg h0], HB1.out⟩
  have h0' := Decidable.not_not.1 h0
  rw [if_pos h0'] at he
  subst he
  have H0 := hid h0'
  clear h0 h0'
  cases hs : spanB lo hi 0 10000 with
  | false =>
    have HA := hid (show tempsErr kn fa lo hi = 1 from by unfold tempsErr; rw [if_pos H0.out, hs]; rfl)
    go_wp2_with (first | (go_at_call 53; refine (span_any _ _ _ _ _).mono ?_; rintro e w2 ⟨rfl, hb⟩; rw [hs]) | (go_at_call 52; refine (demand_no _ _).mono ?_; rintro e w' ⟨rfl, rfl⟩))
    exact ⟨rfl, by rw [HA.out]; rfl, HB1.out.trans (hb.mono HB1.out.size)⟩
  | true =>
    have HA := hid (show tempsErr kn fa lo hi = 0 from by unfold tempsErr; rw [if_pos H0.out, hs]; rfl)
    go_wp2_with (first | (go_at_call 53; refine (span_any _ _ _ _ _).mono ?_; rintro e w2 ⟨rfl, hb⟩; rw [hs]) | (go_at_call 52; refine (demand_ok _ _).mono ?_; rintro e w' ⟨rfl, rfl⟩))
    go_end0
    exact ⟨by rw [HA.out]; rfl, HB1.out.trans (hb.mono HB1.out.size)⟩
set_option maxRecDepth 100000 in
theorem CheckLehr_any (A : Option Addr) (c : Nat) (kn : List S97) (fa : Int) (w : World) (hr : Kd.C k97 w A kn.length kn) :
    Calls Try.prog 26 #[.agg #[.slice A kn.length c, .int .i64 fa]] w (ReturnsErr (lehrErr kn fa) w) := by
  have hu44 := Try.underlying44
  have HB := Below.refl w.heap.size w
  have hmf := makeFunc_any
  refine calls_of_wpF Try.func26 rfl (wpF_of_wp ?_)
  simp only [Try.ntmps26, List.size_toArray, List.length_cons, List.length_nil, Nat.reduceAdd, Nat.reduceSub, Array.replicate_succ, Array.replicate_zero, List.push_toArray, List.append_toArray, List.nil_append, List.cons_append]
  go_wp2_with fail
  have hbel := ((HB.alloc (Nat.le_refl _) (.cells #[.slice A kn.length c, .int .i64 fa] 44)).alloc (by simp) (.cells #[.int .i64 0] 36))
  have e0 := World.alloc_heap_new w (.cells #[.slice A kn.length c, .int .i64 fa] 44)
  have e1 := World.alloc_heap_new (w.alloc (.cells #[.slice A kn.length c, .int .i64 fa] 44)) (.cells #[.int .i64 0] 36)
  have e0 := alloc_old (o' := (.cells #[.int .i64 0] 36)) e0
  have hsz : w.heap.size + 1 < ((w.alloc (.cells #[.slice A kn.length c, .int .i64 fa] 44)).alloc (.cells #[.int .i64 0] 36)).heap.size := by simp
  simp only [World.size_alloc] at e1
  generalize ((w.alloc (.cells #[.slice A kn.length c, .int .i64 fa] 44)).alloc (.cells #[.int .i64 0] 36)) = W0 at *
  refine (checkLehr_any A c kn fa _ (Kd.C_below hr hbel)).mono ?_
  rintro e w1 ⟨he, hb⟩
  have hb1 := hbel.trans (hb.mono hbel.size)
  have e0 := heap_grow e0 hb
  have e1 := heap_grow e1 hb
  have hsz1 : w.heap.size + 1 < w1.heap.size := Nat.lt_of_lt_of_le hsz hb.size
  clear hb hbel hsz HB
  by_cases h0 : lehrErr kn fa = 0
  · rw [if_pos h0] at he
    subst he
    have H0 := hid h0
    have HB1 := hid hb1
    have d0 := blkCell e1 0
    have y1 := blkFrozen e1 0
    have HS := hid hsz1
    simp at d0
    clear h0 hb1 e0 hsz1
    go_wp2
    refine leaves_idle catches73 enters73 ?_
    exact ⟨.int .i64 0, by simp [results, Try.results26, go_sem, d0], by rw [H0.out], HB1.out.setCell (p := ⟨w.heap.size + 1, 0, none⟩) (by simp) _⟩
  · rw [if_neg h0] at he
    subst he
    refine leaves_fail catches73 enters73 (blkCell e1 0) (blkFrozen e1 0) ?_
    exact ⟨.int .i64 (lehrErr kn fa), by simp [results, Try.results26, go_sem, caughtW_cell (blkCell e1 0)], rfl, caughtW_below hb1 (by simp)⟩
set_option maxRecDepth 100000 in
theorem Steepest_any (A : Option Addr) (c : Nat) (kn : List S97) (fa lo hi : Int) (w : World) (hr : Kd.C k97 w A kn.length kn) (hc : kn.length ≤ c) :
    Calls Try.prog 20 #[.agg #[.slice A kn.length c, .int .i64 fa], .agg #[.int .i64 lo, .int .i64 hi]] w fun e w' => e = .returned (.tuple #[.agg #[.int .i64 (steepestRes kn fa lo hi).1, .int .i64 (steepestRes kn fa lo hi).2.1], .int .i64 (steepestRes kn fa lo hi).2.2]) ∧ Below w.heap.size w w' := by
  have hu44 := Try.underlying44
  have hu29 := Try.underlying29
  have hu46 := Try.underlying46
  have HB := Below.refl w.heap.size w
  have hmf := makeFunc_any
  refine calls_of_wpF Try.func20 rfl (wpF_of_wp ?_)
  simp only [Try.ntmps20, List.size_toArray, List.length_cons, List.length_nil, Nat.reduceAdd, Nat.reduceSub, Array.replicate_succ, Array.replicate_zero, List.push_toArray, List.append_toArray, List.nil_append, List.cons_append]
  go_wp2_with fail
  have hbel := ((((HB.alloc (Nat.le_refl _) (.cells #[.slice A kn.length c, .int .i64 fa] 44)).alloc (by simp) (.cells #[.int .i64 lo, .int .i64 hi] 29)).alloc (by simp; omega) (.cells #[.int .i64 0, .int .i64 0] 46)).alloc (by simp; omega) (.cells #[.int .i64 0] 36))
  have e0 := World.alloc_heap_new w (.cells #[.slice A kn.length c, .int .i64 fa] 44)
  have e1 := World.alloc_heap_new (w.alloc (.cells #[.slice A kn.length c, .int .i64 fa] 44)) (.cells #[.int .i64 lo, .int .i64 hi] 29)
  have e2 := World.alloc_heap_new ((w.alloc (.cells #[.slice A kn.length c, .int .i64 fa] 44)).alloc (.cells #[.int .i64 lo, .int .i64 hi] 29)) (.cells #[.int .i64 0, .int .i64 0] 46)
  have e3 := World.alloc_heap_new (((w.alloc (.cells #[.slice A kn.length c, .int .i64 fa] 44)).alloc (.cells #[.int .i64 lo, .int .i64 hi] 29)).alloc (.cells #[.int .i64 0, .int .i64 0] 46)) (.cells #[.int .i64 0] 36)
  have e0 := alloc_old (o' := (.cells #[.int .i64 0] 36)) (alloc_old (o' := (.cells #[.int .i64 0, .int .i64 0] 46)) (alloc_old (o' := (.cells #[.int .i64 lo, .int .i64 hi] 29)) e0))
  have e1 := alloc_old (o' := (.cells #[.int .i64 0] 36)) (alloc_old (o' := (.cells #[.int .i64 0, .int .i64 0] 46)) e1)
  have e2 := alloc_old (o' := (.cells #[.int .i64 0] 36)) e2
  have hsz : w.heap.size + 1 + 1 + 1 < ((((w.alloc (.cells #[.slice A kn.length c, .int .i64 fa] 44)).alloc (.cells #[.int .i64 lo, .int .i64 hi] 29)).alloc (.cells #[.int .i64 0, .int .i64 0] 46)).alloc (.cells #[.int .i64 0] 36)).heap.size := by simp
  simp only [World.size_alloc] at e1 e2 e3
  generalize ((((w.alloc (.cells #[.slice A kn.length c, .int .i64 fa] 44)).alloc (.cells #[.int .i64 lo, .int .i64 hi] 29)).alloc (.cells #[.int .i64 0, .int .i64 0] 46)).alloc (.cells #[.int .i64 0] 36)) = W0 at *
  refine (checkTemps_any A c kn fa lo hi _ (Kd.C_below hr hbel)).mono ?_
  rintro e w1 ⟨he, hb⟩
  have hb1 := hbel.trans (hb.mono hbel.size)
  have e0 := heap_grow e0 hb
  have e1 := heap_grow e1 hb
  have e2 := heap_grow e2 hb
  have e3 := heap_grow e3 hb
  have hsz1 : w.heap.size + 1 + 1 + 1 < w1.heap.size := Nat.lt_of_lt_of_le hsz hb.size
  clear hb hbel hsz HB
  by_cases h0 : ¬ tempsErr kn fa lo hi = 0
  · rw [if_neg h0] at he
    subst he
    have k3 := caughtW_other (c := tempsErr kn fa lo hi) (B := w.heap.size + 1 + 1 + 1) (by omega) e2
    have j0 := blkCell k3 0
    have j1 := blkCell k3 1
    simp at j0 j1
    have HV := hid (show steepestRes kn fa lo hi = (0, 0, tempsErr kn fa lo hi) from by
      unfold tempsErr at h0 ⊢
      unfold steepestRes
      split
      · rename_i g
        rw [if_pos g] at h0
        split
        · rename_i g2; rw [if_pos g2] at h0; exact absurd rfl h0
        · rfl
      · rfl)
    refine leaves_fail catches60 enters60 (blkCell e3 0) (blkFrozen e3 0) ?_
    exact ⟨.tuple #[.agg #[.int .i64 0, .int .i64 0], .int .i64 (tempsErr kn fa lo hi)], by simp [results, Try.results20, go_sem, caughtW_cell (blkCell e3 0), j0, j1], by rw [HV.out], caughtW_below hb1 (by omega)⟩
  have h0' := Decidable.not_not.1 h0
  rw [if_pos h0'] at he
  subst he
  have hL : lehrErr kn fa = 0 := by
    unfold tempsErr at h0'
    split at h0'
    · assumption
    · exact h0'
  have hS : spanB lo hi 0 10000 = true := by
    unfold tempsErr at h0'
    rw [if_pos hL] at h0'
    cases hs : spanB lo hi 0 10000
    · rw [hs] at h0'; exact absurd h0' (by decide)
    · rfl
  have LK := lehr_ok hL
  have HV := hid (show steepestRes kn fa lo hi = ((low (steepOf kn lo hi)).1, (low (steepOf kn lo hi)).2, 0) from by unfold steepestRes; rw [if_pos hL, if_pos hS])
  have HQ := hid (steepOf_ok (lo := lo) (hi := hi) LK)
  have HF := hid (f62_eq (lo := lo) (hi := hi) LK (k := 100) (by omega))
  have HE := hid (And.intro e0 (And.intro e1 (And.intro e2 (And.intro e3 (And.intro hb1 hsz1)))))
  have d0 := blkCell e0 0
  have d1 := blkCell e0 1
  have d2 := blkCell e1 0
  have d3 := blkCell e1 1
  simp at d0 d1 d2 d3
  clear h0 h0' e0 e1 e2 e3 hb1 hsz1 hL hS LK
  go_wp2_with fail
  refine (strength_steepest.calls 100 A c kn fa lo hi (steepOf kn lo hi).1 (steepOf kn lo hi).2 _ (Kd.C_below hr HE.out.2.2.2.2.1) hc HF.out).mono ?_
  rintro e w2 ⟨rfl, hb⟩
  obtain ⟨e0, e1, e2, e3, hb1, hsz1⟩ := HE.out
  have e2 := heap_grow e2 hb
  have e3 := heap_grow e3 hb
  have hb2 := hb1.trans (hb.mono hb1.size)
  have HE2 := hid (And.intro e2 (And.intro e3 (And.intro hb2 (Nat.lt_of_lt_of_le hsz1 hb.size))))
  clear d0 d1 d2 d3 hb hb1 hb2 e0 e1 e2 e3 hsz1 HE HF
  go_wp2_with fail
  refine (strength_lowest.calls 2001 (steepOf kn lo hi).1 (steepOf kn lo hi).2 (low (steepOf kn lo hi)).1 (low (steepOf kn lo hi)).2 _ (lowest63 HQ.out (by omega))).mono ?_
  rintro e w3 ⟨rfl, hb⟩
  obtain ⟨e2, e3, hb1, hsz1⟩ := HE2.out
  have e2 := heap_grow e2 hb
  have e3 := heap_grow e3 hb
  have HB3 := hid (hb1.trans (hb.mono hb1.size))
  have z0 := blkCell e2 0
  have z1 := blkCell e2 1
  have z2 := blkFrozen e2 0
  have z3 := blkFrozen e2 1
  have y0 := blkCell e3 0
  have y1 := blkFrozen e3 0
  simp at z0 z1 y0
  clear hb hb1 e2 e3 hsz1 HE2 HQ
  generalize (low (steepOf kn lo hi)).1 = r1 at *
  generalize (low (steepOf kn lo hi)).2 = r2 at *
  go_wp2
  refine leaves_idle catches60 enters60 ?_
  refine ⟨.tuple #[.agg #[.int .i64 r1, .int .i64 r2], .int .i64 0], by simp [results, Try.results20, go_sem, z0, z1, y0], by rw [HV.out], ?_⟩
  exact (((HB3.out.setCell (p := ⟨w.heap.size + 1 + 1, 0, none⟩) (by simp; omega) _).setCell (p := ⟨w.heap.size + 1 + 1, 1, none⟩) (by simp; omega) _).setCell (p := ⟨w.heap.size + 1 + 1 + 1, 0, none⟩) (by simp; omega) _)
set_option maxRecDepth 100000 in
theorem Held_any (A : Option Addr) (c : Nat) (kn : List S97) (fa x : Int) (w : World) (hr : Kd.C k97 w A kn.length kn) (hc : kn.length ≤ c) :
    Calls Try.prog 22 #[.agg #[.slice A kn.length c, .int .i64 fa], .int .i64 x] w fun e w' => e = .returned (.tuple #[.int .i64 (heldRes kn fa x).1, .int .i64 (heldRes kn fa x).2]) ∧ Below w.heap.size w w' := by
  have hu44 := Try.underlying44
  have HB := Below.refl w.heap.size w
  have hmf := makeFunc_any
  refine calls_of_wpF Try.func22 rfl (wpF_of_wp ?_)
  simp only [Try.ntmps22, List.size_toArray, List.length_cons, List.length_nil, Nat.reduceAdd, Nat.reduceSub, Array.replicate_succ, Array.replicate_zero, List.push_toArray, List.append_toArray, List.nil_append, List.cons_append]
  go_wp2_with fail
  have hbel := ((HB.alloc (Nat.le_refl _) (.cells #[.slice A kn.length c, .int .i64 fa] 44)).alloc (by simp) (.cells #[.int .i64 0] 36))
  have e0 := World.alloc_heap_new w (.cells #[.slice A kn.length c, .int .i64 fa] 44)
  have e1 := World.alloc_heap_new (w.alloc (.cells #[.slice A kn.length c, .int .i64 fa] 44)) (.cells #[.int .i64 0] 36)
  have e0 := alloc_old (o' := (.cells #[.int .i64 0] 36)) e0
  have hsz : w.heap.size + 1 < ((w.alloc (.cells #[.slice A kn.length c, .int .i64 fa] 44)).alloc (.cells #[.int .i64 0] 36)).heap.size := by simp
  simp only [World.size_alloc] at e1
  generalize ((w.alloc (.cells #[.slice A kn.length c, .int .i64 fa] 44)).alloc (.cells #[.int .i64 0] 36)) = W0 at *
  refine (checkLehr_any A c kn fa _ (Kd.C_below hr hbel)).mono ?_
  rintro e w1 ⟨he, hb⟩
  have hb1 := hbel.trans (hb.mono hbel.size)
  have e0 := heap_grow e0 hb
  have e1 := heap_grow e1 hb
  have hsz1 : w.heap.size + 1 < w1.heap.size := Nat.lt_of_lt_of_le hsz hb.size
  clear hb hbel hsz HB
  by_cases h0 : ¬ lehrErr kn fa = 0
  · rw [if_neg h0] at he
    subst he
    refine leaves_fail catches65 enters65 (blkCell e1 0) (blkFrozen e1 0) ?_
    exact ⟨.tuple #[.int .i64 0, .int .i64 (lehrErr kn fa)], by simp [results, Try.results22, go_sem, caughtW_cell (blkCell e1 0)], by unfold heldRes; rw [if_neg h0], caughtW_below hb1 (by omega)⟩
  have h0' := Decidable.not_not.1 h0
  rw [if_pos h0'] at he
  subst he
  have H0 := hid h0'
  have HB1 := hid hb1
  have HE := hid (And.intro e0 e1)
  have d0 := blkCell e0 0
  have d1 := blkCell e0 1
  have d2 := blkCell e1 0
  simp at d0 d1 d2
  have HSZ := hid hsz1
  clear h0 h0' hb1 e0 e1 hsz1
  cases hs : betw x 0 10000 with
  | false =>
    have HV := hid (show heldRes kn fa x = (0, 1) from by unfold heldRes; rw [if_pos H0.out, hs]; rfl)
    go_wp2_with (first | (go_at_call 67; refine (within_any _ _ _ _).mono ?_; rintro e w' ⟨rfl, rfl⟩; rw [hs]) | (go_at_call 52; refine (demand_no _ _).mono ?_; rintro e w' ⟨rfl, rfl⟩))
    refine leaves_fail catches65 enters65 d2 (blkFrozen HE.out.2 0) ?_
    exact ⟨.tuple #[.int .i64 0, .int .i64 1], by simp [results, Try.results22, go_sem, caughtW_cell d2], by rw [HV.out], caughtW_below HB1.out (by omega)⟩
  | true =>
    have HX := hid (show 0 ≤ x ∧ x ≤ 10000 by simpa [betw] using hs)
    have HV := hid (show heldRes kn fa x = (heldOf kn x, 0) from by unfold heldRes; rw [if_pos H0.out, hs]; rfl)
    go_wp2_with (first | (go_at_call 67; refine (within_any _ _ _ _).mono ?_; rintro e w' ⟨rfl, rfl⟩; rw [hs]) | (go_at_call 52; refine (demand_ok _ _).mono ?_; rintro e w' ⟨rfl, rfl⟩))
    refine (strength_held.calls 100 A c kn fa x (heldOf kn x) _ (Kd.C_below hr HB1.out) hc (f68_eq (lehr_ok H0.out) HX.out.1 HX.out.2 (by omega))).mono ?_
    rintro e w2 ⟨rfl, hb⟩
    have e1 := heap_grow HE.out.2 hb
    have HB2 := hid (HB1.out.trans (hb.mono HB1.out.size))
    have y0 := blkCell e1 0
    have y1 := blkFrozen e1 0
    simp at y0
    clear hb e1 d0 d1 d2 HE hs
    generalize heldOf kn x = r1 at *
    go_wp2
    refine leaves_idle catches65 enters65 ?_
    exact ⟨.tuple #[.int .i64 r1, .int .i64 0], by simp [results, Try.results22, go_sem, y0], by rw [HV.out], HB2.out.setCell (p := ⟨w.heap.size + 1, 0, none⟩) (by simp) _⟩
set_option maxRecDepth 100000 in
theorem Strain_any (A : Option Addr) (c : Nat) (kn : List S97) (fa lo hi x : Int) (w : World) (hr : Kd.C k97 w A kn.length kn) (hc : kn.length ≤ c) :
    Calls Try.prog 24 #[.agg #[.slice A kn.length c, .int .i64 fa], .agg #[.int .i64 lo, .int .i64 hi], .int .i64 x] w fun e w' => e = .returned (.tuple #[.int .i64 (strainRes kn fa lo hi x).1, .int .i64 (strainRes kn fa lo hi x).2]) ∧ Below w.heap.size w w' := by
  have hu44 := Try.underlying44
  have hu29 := Try.underlying29
  have HB := Below.refl w.heap.size w
  have hmf := makeFunc_any
  refine calls_of_wpF Try.func24 rfl (wpF_of_wp ?_)
  simp only [Try.ntmps24, List.size_toArray, List.length_cons, List.length_nil, Nat.reduceAdd, Nat.reduceSub, Array.replicate_succ, Array.replicate_zero, List.push_toArray, List.append_toArray, List.nil_append, List.cons_append]
  go_wp2_with fail
  have hbel := (((HB.alloc (Nat.le_refl _) (.cells #[.slice A kn.length c, .int .i64 fa] 44)).alloc (by simp) (.cells #[.int .i64 lo, .int .i64 hi] 29)).alloc (by simp; omega) (.cells #[.int .i64 0] 36))
  have e0 := World.alloc_heap_new w (.cells #[.slice A kn.length c, .int .i64 fa] 44)
  have e1 := World.alloc_heap_new (w.alloc (.cells #[.slice A kn.length c, .int .i64 fa] 44)) (.cells #[.int .i64 lo, .int .i64 hi] 29)
  have e2 := World.alloc_heap_new ((w.alloc (.cells #[.slice A kn.length c, .int .i64 fa] 44)).alloc (.cells #[.int .i64 lo, .int .i64 hi] 29)) (.cells #[.int .i64 0] 36)
  have e0 := alloc_old (o' := (.cells #[.int .i64 0] 36)) (alloc_old (o' := (.cells #[.int .i64 lo, .int .i64 hi] 29)) e0)
  have e1 := alloc_old (o' := (.cells #[.int .i64 0] 36)) e1
  have hsz : w.heap.size + 1 + 1 < (((w.alloc (.cells #[.slice A kn.length c, .int .i64 fa] 44)).alloc (.cells #[.int .i64 lo, .int .i64 hi] 29)).alloc (.cells #[.int .i64 0] 36)).heap.size := by simp
  simp only [World.size_alloc] at e1 e2
  generalize (((w.alloc (.cells #[.slice A kn.length c, .int .i64 fa] 44)).alloc (.cells #[.int .i64 lo, .int .i64 hi] 29)).alloc (.cells #[.int .i64 0] 36)) = W0 at *
  refine (checkTemps_any A c kn fa lo hi _ (Kd.C_below hr hbel)).mono ?_
  rintro e w1 ⟨he, hb⟩
  have hb1 := hbel.trans (hb.mono hbel.size)
  have e0 := heap_grow e0 hb
  have e1 := heap_grow e1 hb
  have e2 := heap_grow e2 hb
  have hsz1 : w.heap.size + 1 + 1 < w1.heap.size := Nat.lt_of_lt_of_le hsz hb.size
  clear hb hbel hsz HB
  by_cases h0 : ¬ tempsErr kn fa lo hi = 0
  · rw [if_neg h0] at he
    subst he
    have HV := hid (show strainRes kn fa lo hi x = (0, tempsErr kn fa lo hi) from by
      unfold tempsErr at h0 ⊢
      unfold strainRes
      split
      · rename_i g
        rw [if_pos g] at h0
        split
        · rename_i g2; rw [if_pos g2] at h0; exact absurd rfl h0
        · rfl
      · rfl)
    refine leaves_fail catches70 enters70 (blkCell e2 0) (blkFrozen e2 0) ?_
    exact ⟨.tuple #[.int .i64 0, .int .i64 (tempsErr kn fa lo hi)], by simp [results, Try.results24, go_sem, caughtW_cell (blkCell e2 0)], by rw [HV.out], caughtW_below hb1 (by omega)⟩
  have h0' := Decidable.not_not.1 h0
  rw [if_pos h0'] at he
  subst he
  have hL : lehrErr kn fa = 0 := by
    unfold tempsErr at h0'
    split at h0'
    · assumption
    · exact h0'
  have hS : spanB lo hi 0 10000 = true := by
    unfold tempsErr at h0'
    rw [if_pos hL] at h0'
    cases hs : spanB lo hi 0 10000
    · rw [hs] at h0'; exact absurd h0' (by decide)
    · rfl
  have H0 := hid hL
  have HS := hid hS
  have HB1 := hid hb1
  have HE := hid (And.intro e0 (And.intro e1 e2))
  have d0 := blkCell e0 0
  have d1 := blkCell e0 1
  have d2 := blkCell e1 0
  have d3 := blkCell e1 1
  have d4 := blkCell e2 0
  simp at d0 d1 d2 d3 d4
  have HSZ := hid hsz1
  clear h0 h0' hb1 e0 e1 e2 hL hS hsz1
  cases hs : betw x 1 2000 with
  | false =>
    have HV := hid (show strainRes kn fa lo hi x = (0, 1) from by unfold strainRes; rw [if_pos H0.out, if_pos HS.out, hs]; rfl)
    go_wp2_with (first | (go_at_call 67; refine (within_any _ _ _ _).mono ?_; rintro e w' ⟨rfl, rfl⟩; rw [hs]) | (go_at_call 52; refine (demand_no _ _).mono ?_; rintro e w' ⟨rfl, rfl⟩))
    refine leaves_fail catches70 enters70 d4 (blkFrozen HE.out.2.2 0) ?_
    exact ⟨.tuple #[.int .i64 0, .int .i64 1], by simp [results, Try.results24, go_sem, caughtW_cell d4], by rw [HV.out], caughtW_below HB1.out (by omega)⟩
  | true =>
    have HX := hid (show 1 ≤ x ∧ x ≤ 2000 by simpa [betw] using hs)
    have HV := hid (show strainRes kn fa lo hi x = (strainOf kn fa lo hi x, 0) from by unfold strainRes; rw [if_pos H0.out, if_pos HS.out, hs]; rfl)
    go_wp2_with (first | (go_at_call 67; refine (within_any _ _ _ _).mono ?_; rintro e w' ⟨rfl, rfl⟩; rw [hs]) | (go_at_call 52; refine (demand_ok _ _).mono ?_; rintro e w' ⟨rfl, rfl⟩))
    refine (strength_strain.calls 100 A c kn fa lo hi x (strainOf kn fa lo hi x) _ (Kd.C_below hr HB1.out) hc (f71_eq (lehr_ok H0.out) HX.out.1 HX.out.2 (by omega))).mono ?_
    rintro e w2 ⟨rfl, hb⟩
    have e2 := heap_grow HE.out.2.2 hb
    have HB2 := hid (HB1.out.trans (hb.mono HB1.out.size))
    have y0 := blkCell e2 0
    have y1 := blkFrozen e2 0
    simp at y0
    clear hb e2 d0 d1 d2 d3 d4 HE hs
    generalize strainOf kn fa lo hi x = r1 at *
    go_wp2
    refine leaves_idle catches70 enters70 ?_
    exact ⟨.tuple #[.int .i64 r1, .int .i64 0], by simp [results, Try.results24, go_sem, y0], by rw [HV.out], HB2.out.setCell (p := ⟨w.heap.size + 1 + 1, 0, none⟩) (by simp; omega) _⟩
end Go.Proofs.Ythoofldinnfpiaa
