import Derived.Test.YthoofldinnfpiaaH
namespace Go.Proofs.Ythoofldinnfpiaa
open Go.RowKit Go.Proofs.YthoofldinnfpiaaW.PrintWords Go.Proofs.YthoofldinnfpiaaW.PrintLast Go.Proofs.YthoofldinnfpiaaW.PrintMore
open Q Go.Shelf
attribute [local go_sem] Oper.semAt_some wide_depth wide_fn
set_option linter.unusedVariables false
def loadOk (p f s o : Int) : Bool := betw p 0 10000 && (betw f 0 20000 && (betw s 0 2000 && betw o 0 10000000))
set_option maxRecDepth 100000 in
set_option maxHeartbeats 1000000 in
theorem checkLoad_any (p f s o : Int) (w : World) : Calls Try.prog 79 #[.agg #[.int .i64 p, .int .i64 f, .int .i64 s, .int .i64 o]] w (Ends (if loadOk p f s o = true then 0 else 1) w) := by
  have HB := Below.refl w.heap.size w
  cases hp : betw p 0 10000 with
  | false =>
    have hv : loadOk p f s o = false := by simp [loadOk, hp]
    rw [show (if loadOk p f s o = true then (0 : Int) else 1) = 1 from by rw [hv]; rfl]
    clear hv
    go_enter Try.func79, Try.ntmps79
    go_wp2_with (first | (go_at_call 67; refine (within_any _ _ _ _).mono ?_; rintro e w' ⟨rfl, rfl⟩) | (go_at_call 52; refine (demand_no _ _).mono ?_; rintro e w' ⟨rfl, rfl⟩))
    exact ⟨rfl, rfl, HB.alloc (Nat.le_refl _) _⟩
  | true =>
  cases hf : betw f 0 20000 with
  | false =>
    have hv : loadOk p f s o = false := by simp [loadOk, hp, hf]
    rw [show (if loadOk p f s o = true then (0 : Int) else 1) = 1 from by rw [hv]; rfl]
    clear hv
    go_enter Try.func79, Try.ntmps79
    go_wp2_with (first | (go_at_call 67; refine (within_any _ _ _ _).mono ?_; rintro e w' ⟨rfl, rfl⟩) | (go_at_call 52; refine (demand_no _ _).mono ?_; rintro e w' ⟨rfl, rfl⟩))
    exact ⟨rfl, rfl, HB.alloc (Nat.le_refl _) _⟩
  | true =>
  cases hs : betw s 0 2000 with
  | false =>
    have hv : loadOk p f s o = false := by simp [loadOk, hp, hf, hs]
    rw [show (if loadOk p f s o = true then (0 : Int) else 1) = 1 from by rw [hv]; rfl]
    clear hv
    go_enter Try.func79, Try.ntmps79
    go_wp2_with (first | (go_at_call 67; refine (within_any _ _ _ _).mono ?_; rintro e w' ⟨rfl, rfl⟩) | (go_at_call 52; refine (demand_no _ _).mono ?_; rintro e w' ⟨rfl, rfl⟩))
    exact ⟨rfl, rfl, HB.alloc (Nat.le_refl _) _⟩
  | true =>
  cases ho : betw o 0 10000000 with
  | false =>
    have hv : loadOk p f s o = false := by simp [loadOk, hp, hf, hs, ho]
    rw [show (if loadOk p f s o = true then (0 : Int) else 1) = 1 from by rw [hv]; rfl]
    clear hv
    go_enter Try.func79, Try.ntmps79
    go_wp2_with (first | (go_at_call 67; refine (within_any _ _ _ _).mono ?_; rintro e w' ⟨rfl, rfl⟩) | (go_at_call 52; refine (demand_no _ _).mono ?_; rintro e w' ⟨rfl, rfl⟩))
    exact ⟨rfl, rfl, HB.alloc (Nat.le_refl _) _⟩
  | true =>
  have hv : loadOk p f s o = true := by simp [loadOk, hp, hf, hs, ho]
  rw [show (if loadOk p f s o = true then (0 : Int) else 1) = 0 from by rw [hv]; rfl]
  clear hv
  go_enter Try.func79, Try.ntmps79
  go_wp2_with (first | (go_at_call 67; refine (within_any _ _ _ _).mono ?_; rintro e w' ⟨rfl, rfl⟩) | (go_at_call 52; refine (demand_ok _ _).mono ?_; rintro e w' ⟨rfl, rfl⟩))
  go_end0
  exact ⟨rfl, HB.alloc (Nat.le_refl _) _⟩
/-- the first error of a bottle, thicknesses and a load -/
def askedOf (l : List S82) (fl tg : Int) (th : List S29) (p f s o : Int) : Int :=
  if checkOf l fl tg = 0 then (if (decide (th.length = l.length) && th.all okThick) = false then 1 else if loadOk p f s o = false then 1 else 0) else checkOf l fl tg
theorem all_any {α : Type} {l : List α} {p : α → Bool} : (l.any fun x => !(p x)) = !(l.all p) := by
  induction l with
  | nil => rfl
  | cons x l ih => rw [List.any_cons, List.all_cons, ih]; cases p x <;> rfl
set_option maxRecDepth 100000 in
set_option maxHeartbeats 1000000 in
theorem asked_any (A : Option Addr) (c : Nat) (l : List S82) (fl tg : Int) (A0 : Option Addr) (c0 : Nat) (th : List S29) (p f s o : Int) (w : World) (hr : Kd.C k82 w A l.length l) (hr0 : Kd.C k29 w A0 th.length th) (hl : l.length ≤ 100000) (hth : th.length ≤ 100000) :
    Calls Try.prog 76 #[.agg #[.slice A l.length c, .int .i64 fl, .int .i64 tg], .slice A0 th.length c0, .agg #[.int .i64 p, .int .i64 f, .int .i64 s, .int .i64 o]] w (Ends (askedOf l fl tg th p f s o) w) := by
  have HB := Below.refl w.heap.size w
  go_enter Try.func76, Try.ntmps76
  go_wp2_with fail
  have hbel := (HB.alloc (Nat.le_refl _) (.cells #[.slice A l.length c, .int .i64 fl, .int .i64 tg] 24)).alloc (by simp) (.cells #[.int .i64 p, .int .i64 f, .int .i64 s, .int .i64 o] 27)
  refine (check_any A c l fl tg _ (Kd.C_below hr hbel)).mono ?_
  rintro e w1 ⟨he, hb⟩
  have c0' : w1.cell? ⟨w.heap.size, 0, none⟩ = some (.slice A l.length c) := cell_grow (by simp) hb
  have d0 : w1.cell? ⟨w.heap.size + 1, 0, none⟩ = some (.int .i64 p) := cell_grow (by simp) hb
  have d1 : w1.cell? ⟨w.heap.size + 1, 1, none⟩ = some (.int .i64 f) := cell_grow (by simp) hb
  have d2 : w1.cell? ⟨w.heap.size + 1, 2, none⟩ = some (.int .i64 s) := cell_grow (by simp) hb
  have d3 : w1.cell? ⟨w.heap.size + 1, 3, none⟩ = some (.int .i64 o) := cell_grow (by simp) hb
  have HB1 := hid (hbel.trans (hb.mono (by simp; omega)))
  clear hbel hb HB
  by_cases h0 : ¬ checkOf l fl tg = 0
  · rw [if_neg h0] at he
    subst he
    exact ⟨rfl, by unfold askedOf; rw [if_neg h0, if_neg h0], HB1.out⟩
  have h0' := Decidable.not_not.1 h0
  rw [if_pos h0'] at he
  subst he
  have H0 := hid h0'
  clear h0 h0'
  by_cases hn : ¬ th.length = l.length
  · have k1 : ((th.length : Int) == (l.length : Int)) = false := by simp; omega
    have k2 : (th.length == l.length) = false := by simp; omega
    have HA := hid (show askedOf l fl tg th p f s o = 1 from by unfold askedOf; rw [if_pos H0.out, if_pos (by rw [decide_eq_false hn]; rfl)])
    clear hn
    go_wp2_with (first | (go_at_call 52; refine (demand_no _ _).mono ?_; rintro e w' ⟨rfl, rfl⟩))
    exact ⟨rfl, by rw [HA.out]; rfl, HB1.out⟩
  have hn' := Decidable.not_not.1 hn
  have k1 : ((th.length : Int) == (l.length : Int)) = true := by simp; omega
  have k2 : (th.length == l.length) = true := by simp; omega
  have HN := hid hn'
  clear hn hn'
  have HR := hid (Kd.C_below hr0 HB1.out)
  go_wp2_with (first | (go_at_call 104; refine (contains105 A0 c0 th _ HR.out (by omega)).mono ?_; rintro e w2 ⟨rfl, hb⟩))
  have c0'' := cell_grow c0' hb
  have f0 := cell_grow d0 hb
  have f1 := cell_grow d1 hb
  have f2 := cell_grow d2 hb
  have f3 := cell_grow d3 hb
  have HB2 := hid (HB1.out.trans (hb.mono HB1.out.size))
  clear c0' d0 d1 d2 d3 hb HB1 HR
  rw [all_any]
  cases ht : th.all okThick with
  | false =>
    have HA := hid (show askedOf l fl tg th p f s o = 1 from by unfold askedOf; rw [if_pos H0.out, if_pos (by rw [ht]; simp)])
    clear ht
    go_wp2_with (first | (go_at_call 52; refine (demand_no _ _).mono ?_; rintro e w' ⟨rfl, rfl⟩))
    exact ⟨rfl, by rw [HA.out]; rfl, HB2.out⟩
  | true =>
    have HT := hid ht
    clear ht
    go_wp2_with (first | (go_at_call 52; refine (demand_ok _ _).mono ?_; rintro e w' ⟨rfl, rfl⟩))
    refine (checkLoad_any _ _ _ _ _).mono ?_
    rintro e w3 ⟨he, hb⟩
    have HB3 := hid (HB2.out.trans (hb.mono HB2.out.size))
    have hv : askedOf l fl tg th p f s o = if loadOk p f s o = false then 1 else 0 := by unfold askedOf; rw [if_pos H0.out, if_neg (by rw [HT.out]; simp [HN.out])]
    have HV := hid hv
    clear hb hv
    cases hlo : loadOk p f s o with
    | false =>
      rw [hlo] at he
      simp at he
      subst he
      exact ⟨rfl, by rw [HV.out, hlo, if_pos rfl]; rfl, HB3.out⟩
    | true =>
      rw [hlo] at he
      simp at he
      subst he
      have HA := hid (show askedOf l fl tg th p f s o = 0 from by rw [HV.out, hlo]; rfl)
      clear hlo
      go_wp2
      go_end0
      exact ⟨by rw [HA.out]; rfl, HB3.out⟩
theorem down_eq (a b : Int) (w : World) (h : ¬ b = 0) : Calls Try.prog 100 #[.int .i64 a, .int .i64 b] w fun e w' => e = .returned (.int .i64 (downW a b)) ∧ w' = w := by
  go_enter Try.func100, Try.ntmps100
  go_wp2
  go_ret
  exact ⟨rfl, rfl⟩
theorem up_eq (a b : Int) (w : World) (h : ¬ b = 0) : Calls Try.prog 101 #[.int .i64 a, .int .i64 b] w fun e w' => e = .returned (.int .i64 (upW a b)) ∧ w' = w := by
  go_enter Try.func101, Try.ntmps101
  go_wp2
  go_ret
  exact ⟨rfl, rfl⟩
def a1 (r : S82) (t : S29) (p f s o : Int) : Int := downW (wrap64 (wrap64 (p * r.f0.f0) * r.f3.f0)) (wrap64 (100 * t.f1))
def b1 (r : S82) (t : S29) (p f s o : Int) : Int := upW (wrap64 (wrap64 (p * r.f0.f1) * r.f3.f1)) (wrap64 (100 * t.f0))
def a2 (r : S82) (t : S29) (p f s o : Int) : Int := downW (wrap64 (wrap64 (500000 * f) * 113)) (wrap64 (wrap64 (355 * r.f0.f1) * t.f1))
def b2 (r : S82) (t : S29) (p f s o : Int) : Int := upW (wrap64 (wrap64 (500000 * f) * 106)) (wrap64 (wrap64 (333 * r.f0.f0) * t.f0))
def a3 (r : S82) (t : S29) (p f s o : Int) : Int := downW (IntKind.i64.wrap (r.f4.f0 * s)) t.f1
def b3 (r : S82) (t : S29) (p f s o : Int) : Int := upW (IntKind.i64.wrap (r.f4.f1 * s)) t.f0
set_option maxRecDepth 100000 in
set_option maxHeartbeats 1000000 in
theorem part1_any (r : S82) (t : S29) (p f s o : Int) (w : World) (h1 : ¬ wrap64 (100 * t.f1) = 0) (h2 : ¬ wrap64 (100 * t.f0) = 0) :
    Calls Try.prog 119 #[ringV r, .agg #[.int .i64 t.f0, .int .i64 t.f1], .agg #[.int .i64 p, .int .i64 f, .int .i64 s, .int .i64 o]] w fun e w' => e = .returned (.tuple #[.int .i64 (a1 r t p f s o), .int .i64 (b1 r t p f s o)]) ∧ Below w.heap.size w w' := by
  have HB := Below.refl w.heap.size w
  have hu := Try.underlying82
  have hu2 := Try.underlying29
  have hu3 := Try.underlying27
  unfold ringV
  go_enter Try.func119, Try.ntmps119
  go_wp2_with (first | (go_at_call 100; refine (down_eq _ _ _ h1).mono ?_; rintro e w' ⟨rfl, rfl⟩) | (go_at_call 101; refine (up_eq _ _ _ h2).mono ?_; rintro e w' ⟨rfl, rfl⟩))
  refine bodyPost_ret (v := .tuple #[.int .i64 (a1 r t p f s o), .int .i64 (b1 r t p f s o)]) (by simp [results, Try.results119, go_sem]; exact ⟨rfl, rfl⟩) rfl ?_
  exact ⟨rfl, ((HB.alloc (Nat.le_refl _) _).alloc (by simp) _).alloc (by simp; omega) _⟩
set_option maxRecDepth 100000 in
set_option maxHeartbeats 1000000 in
theorem part2_any (r : S82) (t : S29) (p f s o : Int) (w : World) (h1 : ¬ wrap64 (wrap64 (355 * r.f0.f1) * t.f1) = 0) (h2 : ¬ wrap64 (wrap64 (333 * r.f0.f0) * t.f0) = 0) :
    Calls Try.prog 120 #[ringV r, .agg #[.int .i64 t.f0, .int .i64 t.f1], .agg #[.int .i64 p, .int .i64 f, .int .i64 s, .int .i64 o]] w fun e w' => e = .returned (.tuple #[.int .i64 (a2 r t p f s o), .int .i64 (b2 r t p f s o)]) ∧ Below w.heap.size w w' := by
  have HB := Below.refl w.heap.size w
  have hu := Try.underlying82
  have hu2 := Try.underlying29
  have hu3 := Try.underlying27
  unfold ringV
  go_enter Try.func120, Try.ntmps120
  go_wp2_with (first | (go_at_call 100; refine (down_eq _ _ _ h1).mono ?_; rintro e w' ⟨rfl, rfl⟩) | (go_at_call 101; refine (up_eq _ _ _ h2).mono ?_; rintro e w' ⟨rfl, rfl⟩))
  refine bodyPost_ret (v := .tuple #[.int .i64 (a2 r t p f s o), .int .i64 (b2 r t p f s o)]) (by simp [results, Try.results120, go_sem]; exact ⟨rfl, rfl⟩) rfl ?_
  exact ⟨rfl, ((HB.alloc (Nat.le_refl _) _).alloc (by simp) _).alloc (by simp; omega) _⟩
set_option maxRecDepth 100000 in
set_option maxHeartbeats 1000000 in
theorem part3_any (r : S82) (t : S29) (p f s o : Int) (w : World) (h1 : ¬ t.f1 = 0) (h2 : ¬ t.f0 = 0) :
    Calls Try.prog 121 #[ringV r, .agg #[.int .i64 t.f0, .int .i64 t.f1], .agg #[.int .i64 p, .int .i64 f, .int .i64 s, .int .i64 o]] w fun e w' => e = .returned (.tuple #[.int .i64 (a3 r t p f s o), .int .i64 (b3 r t p f s o)]) ∧ Below w.heap.size w w' := by
  have HB := Below.refl w.heap.size w
  have hu := Try.underlying82
  have hu2 := Try.underlying29
  have hu3 := Try.underlying27
  unfold ringV
  go_enter Try.func121, Try.ntmps121
  go_wp2_with fail
  refine wp_flow [[], [0], [1, 0], [], [3], [2, 1, 0, 4, 3], [], [6], [5, 2, 1, 0, 4, 3, 7, 6], [], [9], [10, 9], [], [12], [11, 10, 9, 13, 12], [], [15], [14, 11, 10, 9, 13, 12, 16, 15, 8, 5, 2, 1, 0, 4, 3, 7, 6], [8, 5, 2, 1, 0, 4, 3, 7, 6, 17, 14, 11, 10, 9, 13, 12, 16, 15], [17, 14, 11, 10, 9, 13, 12, 16, 15, 8, 5, 2, 1, 0, 4, 3, 7, 6, 18]] 20
    (fun W => W.cell? ⟨w.heap.size, 0, none⟩ = some (.int .i64 r.f0.f0) ∧ W.cell? ⟨w.heap.size, 1, none⟩ = some (.int .i64 r.f0.f1) ∧ W.cell? ⟨w.heap.size, 2, none⟩ = some (.int .i64 r.f1.f0) ∧ W.cell? ⟨w.heap.size, 3, none⟩ = some (.int .i64 r.f1.f1) ∧ W.cell? ⟨w.heap.size, 4, none⟩ = some (.int .i64 r.f2.f0) ∧ W.cell? ⟨w.heap.size, 5, none⟩ = some (.int .i64 r.f2.f1) ∧ W.cell? ⟨w.heap.size, 6, none⟩ = some (.int .i64 r.f3.f0) ∧ W.cell? ⟨w.heap.size, 7, none⟩ = some (.int .i64 r.f3.f1) ∧ W.cell? ⟨w.heap.size, 8, none⟩ = some (.int .i64 r.f4.f0) ∧ W.cell? ⟨w.heap.size, 9, none⟩ = some (.int .i64 r.f4.f1) ∧ W.cell? ⟨(w.heap.size + 1), 0, none⟩ = some (.int .i64 t.f0) ∧ W.cell? ⟨(w.heap.size + 1), 1, none⟩ = some (.int .i64 t.f1) ∧ W.cell? ⟨(w.heap.size + 1 + 1), 0, none⟩ = some (.int .i64 p) ∧ W.cell? ⟨(w.heap.size + 1 + 1), 1, none⟩ = some (.int .i64 f) ∧ W.cell? ⟨(w.heap.size + 1 + 1), 2, none⟩ = some (.int .i64 s) ∧ W.cell? ⟨(w.heap.size + 1 + 1), 3, none⟩ = some (.int .i64 o) ∧ Below w.heap.size w W)
    { tmps := #[.agg #[.int .i64 r.f0.f0, .int .i64 r.f0.f1, .int .i64 r.f1.f0, .int .i64 r.f1.f1, .int .i64 r.f2.f0, .int .i64 r.f2.f1, .int .i64 r.f3.f0, .int .i64 r.f3.f1, .int .i64 r.f4.f0, .int .i64 r.f4.f1], .agg #[.int .i64 t.f0, .int .i64 t.f1], .agg #[.int .i64 p, .int .i64 f, .int .i64 s, .int .i64 o], .pointer (some ⟨w.heap.size, 0, none⟩), .pointer (some ⟨(w.heap.size + 1), 0, none⟩), .pointer (some ⟨(w.heap.size + 1 + 1), 0, none⟩), .int .i64 (a3 r t p f s o), .int .i64 (b3 r t p f s o), .pointer (some ⟨w.heap.size, 8, none⟩), .pointer (some ⟨w.heap.size, 8, none⟩), .int .i64 r.f4.f0, .pointer (some ⟨(w.heap.size + 1 + 1), 2, none⟩), .int .i64 s, .int .i64 (IntKind.i64.wrap (r.f4.f0 * s)), .pointer (some ⟨(w.heap.size + 1), 1, none⟩), .int .i64 t.f1, .int .i64 (a3 r t p f s o), .pointer (some ⟨w.heap.size, 8, none⟩), .pointer (some ⟨w.heap.size, 9, none⟩), .int .i64 r.f4.f1, .pointer (some ⟨(w.heap.size + 1 + 1), 2, none⟩), .int .i64 s, .int .i64 (IntKind.i64.wrap (r.f4.f1 * s)), .pointer (some ⟨(w.heap.size + 1), 0, none⟩), .int .i64 t.f0, .int .i64 (b3 r t p f s o)], defers := [] }
    mixed (by kernel_rfl) rfl (Ahead.of [0, 1, 2, 3, 4, 5] rfl rfl (by kernel_rfl) (by simp)) ?_ (AllFlow.ops rfl ?_) rfl ?_
  · exact ⟨by go_simp, by go_simp, by go_simp, by go_simp, by go_simp, by go_simp, by go_simp, by go_simp, by go_simp, by go_simp, by go_simp, by go_simp, by go_simp, by go_simp, by go_simp, by go_simp, ((((HB.alloc (Nat.le_refl _) _).alloc (by simp) _).alloc (by simp; omega) _)).drew⟩
  · refine ⟨?_, ?_, ?_, ?_, ?_, ?_, ?_, ?_, ?_, ?_, ?_, ?_, ?_, ?_, ?_, ?_, ?_, ?_, ?_, ?_, trivial⟩
    · exact .val 8 _ rfl rfl fun W ⟨c0, c1, c2, c3, c4, c5, c6, c7, c8, c9, c10, c11, c12, c13, c14, c15, hB_⟩ => by go_simp
    · exact .val 9 _ rfl rfl fun W ⟨c0, c1, c2, c3, c4, c5, c6, c7, c8, c9, c10, c11, c12, c13, c14, c15, hB_⟩ => by go_simp
    · exact .val 10 _ rfl rfl fun W ⟨c0, c1, c2, c3, c4, c5, c6, c7, c8, c9, c10, c11, c12, c13, c14, c15, hB_⟩ => by go_simp
    · exact .val 11 _ rfl rfl fun W ⟨c0, c1, c2, c3, c4, c5, c6, c7, c8, c9, c10, c11, c12, c13, c14, c15, hB_⟩ => by go_simp
    · exact .val 12 _ rfl rfl fun W ⟨c0, c1, c2, c3, c4, c5, c6, c7, c8, c9, c10, c11, c12, c13, c14, c15, hB_⟩ => by go_simp
    · exact .val 13 _ rfl rfl fun W ⟨c0, c1, c2, c3, c4, c5, c6, c7, c8, c9, c10, c11, c12, c13, c14, c15, hB_⟩ => by go_simp
    · exact .val 14 _ rfl rfl fun W ⟨c0, c1, c2, c3, c4, c5, c6, c7, c8, c9, c10, c11, c12, c13, c14, c15, hB_⟩ => by go_simp
    · exact .val 15 _ rfl rfl fun W ⟨c0, c1, c2, c3, c4, c5, c6, c7, c8, c9, c10, c11, c12, c13, c14, c15, hB_⟩ => by go_simp
    · refine .call 16 (.int .i64 (a3 r t p f s o)) 100 #[.int .i64 (IntKind.i64.wrap (r.f4.f0 * s)), .int .i64 t.f1] rfl rfl (fun W ⟨c0, c1, c2, c3, c4, c5, c6, c7, c8, c9, c10, c11, c12, c13, c14, c15, hB_⟩ => by go_simp) fun W ⟨c0, c1, c2, c3, c4, c5, c6, c7, c8, c9, c10, c11, c12, c13, c14, c15, hB_⟩ => ?_
      refine (down_any _ _ _ h1).mono ?_
      rintro e w' ⟨rfl, hb⟩
      exact ⟨rfl, cell_grow c0 hb, cell_grow c1 hb, cell_grow c2 hb, cell_grow c3 hb, cell_grow c4 hb, cell_grow c5 hb, cell_grow c6 hb, cell_grow c7 hb, cell_grow c8 hb, cell_grow c9 hb, cell_grow c10 hb, cell_grow c11 hb, cell_grow c12 hb, cell_grow c13 hb, cell_grow c14 hb, cell_grow c15 hb, hB_.trans (hb.mono hB_.size)⟩
    · exact .val 17 _ rfl rfl fun W ⟨c0, c1, c2, c3, c4, c5, c6, c7, c8, c9, c10, c11, c12, c13, c14, c15, hB_⟩ => by go_simp
    · exact .val 18 _ rfl rfl fun W ⟨c0, c1, c2, c3, c4, c5, c6, c7, c8, c9, c10, c11, c12, c13, c14, c15, hB_⟩ => by go_simp
    · exact .val 19 _ rfl rfl fun W ⟨c0, c1, c2, c3, c4, c5, c6, c7, c8, c9, c10, c11, c12, c13, c14, c15, hB_⟩ => by go_simp
    · exact .val 20 _ rfl rfl fun W ⟨c0, c1, c2, c3, c4, c5, c6, c7, c8, c9, c10, c11, c12, c13, c14, c15, hB_⟩ => by go_simp
    · exact .val 21 _ rfl rfl fun W ⟨c0, c1, c2, c3, c4, c5, c6, c7, c8, c9, c10, c11, c12, c13, c14, c15, hB_⟩ => by go_simp
    · exact .val 22 _ rfl rfl fun W ⟨c0, c1, c2, c3, c4, c5, c6, c7, c8, c9, c10, c11, c12, c13, c14, c15, hB_⟩ => by go_simp
    · exact .val 23 _ rfl rfl fun W ⟨c0, c1, c2, c3, c4, c5, c6, c7, c8, c9, c10, c11, c12, c13, c14, c15, hB_⟩ => by go_simp
    · exact .val 24 _ rfl rfl fun W ⟨c0, c1, c2, c3, c4, c5, c6, c7, c8, c9, c10, c11, c12, c13, c14, c15, hB_⟩ => by go_simp
    · refine .call 25 (.int .i64 (b3 r t p f s o)) 101 #[.int .i64 (IntKind.i64.wrap (r.f4.f1 * s)), .int .i64 t.f0] rfl rfl (fun W ⟨c0, c1, c2, c3, c4, c5, c6, c7, c8, c9, c10, c11, c12, c13, c14, c15, hB_⟩ => by go_simp) fun W ⟨c0, c1, c2, c3, c4, c5, c6, c7, c8, c9, c10, c11, c12, c13, c14, c15, hB_⟩ => ?_
      refine (up_any _ _ _ h2).mono ?_
      rintro e w' ⟨rfl, hb⟩
      exact ⟨rfl, cell_grow c0 hb, cell_grow c1 hb, cell_grow c2 hb, cell_grow c3 hb, cell_grow c4 hb, cell_grow c5 hb, cell_grow c6 hb, cell_grow c7 hb, cell_grow c8 hb, cell_grow c9 hb, cell_grow c10 hb, cell_grow c11 hb, cell_grow c12 hb, cell_grow c13 hb, cell_grow c14 hb, cell_grow c15 hb, hB_.trans (hb.mono hB_.size)⟩
    · exact .val 6 _ rfl rfl fun W ⟨c0, c1, c2, c3, c4, c5, c6, c7, c8, c9, c10, c11, c12, c13, c14, c15, hB_⟩ => by go_simp
    · exact .val 7 _ rfl rfl fun W ⟨c0, c1, c2, c3, c4, c5, c6, c7, c8, c9, c10, c11, c12, c13, c14, c15, hB_⟩ => by go_simp
  · rintro W ⟨c0, c1, c2, c3, c4, c5, c6, c7, c8, c9, c10, c11, c12, c13, c14, c15, hB_⟩
    have HW := hid hB_
    clear hB_ c0 c1 c2 c3 c4 c5 c6 c7 c8 c9 c10 c11 c12 c13 c14 c15 HB
    go_wp2
    refine bodyPost_ret (v := .tuple #[.int .i64 (a3 r t p f s o), .int .i64 (b3 r t p f s o)]) (by simp [results, Try.results121, go_sem]) rfl ⟨rfl, ?_⟩
    exact HW.out
set_option maxRecDepth 100000 in
set_option maxHeartbeats 1000000 in
theorem part4_any (r : S82) (t : S29) (p f s o : Int) (w : World)  :
    Calls Try.prog 122 #[ringV r, .agg #[.int .i64 t.f0, .int .i64 t.f1], .agg #[.int .i64 p, .int .i64 f, .int .i64 s, .int .i64 o]] w fun e w' => e = .returned (.tuple #[.int .i64 (o), .int .i64 (o)]) ∧ Below w.heap.size w w' := by
  have HB := Below.refl w.heap.size w
  have hu := Try.underlying82
  have hu2 := Try.underlying29
  have hu3 := Try.underlying27
  unfold ringV
  go_enter Try.func122, Try.ntmps122
  go_wp2_with fail
  refine wp_flow [[], [0], [], [2], [1, 0], [3, 2, 4, 1, 0]] 6
    (fun W => W.cell? ⟨w.heap.size, 0, none⟩ = some (.int .i64 r.f0.f0) ∧ W.cell? ⟨w.heap.size, 1, none⟩ = some (.int .i64 r.f0.f1) ∧ W.cell? ⟨w.heap.size, 2, none⟩ = some (.int .i64 r.f1.f0) ∧ W.cell? ⟨w.heap.size, 3, none⟩ = some (.int .i64 r.f1.f1) ∧ W.cell? ⟨w.heap.size, 4, none⟩ = some (.int .i64 r.f2.f0) ∧ W.cell? ⟨w.heap.size, 5, none⟩ = some (.int .i64 r.f2.f1) ∧ W.cell? ⟨w.heap.size, 6, none⟩ = some (.int .i64 r.f3.f0) ∧ W.cell? ⟨w.heap.size, 7, none⟩ = some (.int .i64 r.f3.f1) ∧ W.cell? ⟨w.heap.size, 8, none⟩ = some (.int .i64 r.f4.f0) ∧ W.cell? ⟨w.heap.size, 9, none⟩ = some (.int .i64 r.f4.f1) ∧ W.cell? ⟨(w.heap.size + 1), 0, none⟩ = some (.int .i64 t.f0) ∧ W.cell? ⟨(w.heap.size + 1), 1, none⟩ = some (.int .i64 t.f1) ∧ W.cell? ⟨(w.heap.size + 1 + 1), 0, none⟩ = some (.int .i64 p) ∧ W.cell? ⟨(w.heap.size + 1 + 1), 1, none⟩ = some (.int .i64 f) ∧ W.cell? ⟨(w.heap.size + 1 + 1), 2, none⟩ = some (.int .i64 s) ∧ W.cell? ⟨(w.heap.size + 1 + 1), 3, none⟩ = some (.int .i64 o) ∧ Below w.heap.size w W)
    { tmps := #[.agg #[.int .i64 r.f0.f0, .int .i64 r.f0.f1, .int .i64 r.f1.f0, .int .i64 r.f1.f1, .int .i64 r.f2.f0, .int .i64 r.f2.f1, .int .i64 r.f3.f0, .int .i64 r.f3.f1, .int .i64 r.f4.f0, .int .i64 r.f4.f1], .agg #[.int .i64 t.f0, .int .i64 t.f1], .agg #[.int .i64 p, .int .i64 f, .int .i64 s, .int .i64 o], .pointer (some ⟨w.heap.size, 0, none⟩), .pointer (some ⟨(w.heap.size + 1), 0, none⟩), .pointer (some ⟨(w.heap.size + 1 + 1), 0, none⟩), .int .i64 o, .int .i64 o, .pointer (some ⟨(w.heap.size + 1 + 1), 3, none⟩), .int .i64 o, .pointer (some ⟨(w.heap.size + 1 + 1), 3, none⟩), .int .i64 o], defers := [] }
    mixed (by kernel_rfl) rfl (Ahead.of [0, 1, 2, 3, 4, 5] rfl rfl (by kernel_rfl) (by simp)) ?_ (AllFlow.ops rfl ?_) rfl ?_
  · exact ⟨by go_simp, by go_simp, by go_simp, by go_simp, by go_simp, by go_simp, by go_simp, by go_simp, by go_simp, by go_simp, by go_simp, by go_simp, by go_simp, by go_simp, by go_simp, by go_simp, ((((HB.alloc (Nat.le_refl _) _).alloc (by simp) _).alloc (by simp; omega) _)).drew⟩
  · refine ⟨?_, ?_, ?_, ?_, ?_, ?_, trivial⟩
    · exact .val 8 _ rfl rfl fun W ⟨c0, c1, c2, c3, c4, c5, c6, c7, c8, c9, c10, c11, c12, c13, c14, c15, hB_⟩ => by go_simp
    · exact .val 9 _ rfl rfl fun W ⟨c0, c1, c2, c3, c4, c5, c6, c7, c8, c9, c10, c11, c12, c13, c14, c15, hB_⟩ => by go_simp
    · exact .val 10 _ rfl rfl fun W ⟨c0, c1, c2, c3, c4, c5, c6, c7, c8, c9, c10, c11, c12, c13, c14, c15, hB_⟩ => by go_simp
    · exact .val 11 _ rfl rfl fun W ⟨c0, c1, c2, c3, c4, c5, c6, c7, c8, c9, c10, c11, c12, c13, c14, c15, hB_⟩ => by go_simp
    · exact .val 6 _ rfl rfl fun W ⟨c0, c1, c2, c3, c4, c5, c6, c7, c8, c9, c10, c11, c12, c13, c14, c15, hB_⟩ => by go_simp
    · exact .val 7 _ rfl rfl fun W ⟨c0, c1, c2, c3, c4, c5, c6, c7, c8, c9, c10, c11, c12, c13, c14, c15, hB_⟩ => by go_simp
  · rintro W ⟨c0, c1, c2, c3, c4, c5, c6, c7, c8, c9, c10, c11, c12, c13, c14, c15, hB_⟩
    have HW := hid hB_
    clear hB_ c0 c1 c2 c3 c4 c5 c6 c7 c8 c9 c10 c11 c12 c13 c14 c15 HB
    go_wp2
    refine bodyPost_ret (v := .tuple #[.int .i64 (o), .int .i64 (o)]) (by simp [results, Try.results122, go_sem]) rfl ⟨rfl, ?_⟩
    exact HW.out
theorem parts_any (w : World) : Calls Try.prog 108 #[] w fun e w' => e = .returned (.slice (some ⟨w.heap.size, 0, none⟩) 4 4) ∧ w'.heap[w.heap.size]? = some (.cells #[.func (.func 119) #[] #[], .func (.func 120) #[] #[], .func (.func 121) #[] #[], .func (.func 122) #[] #[]] 125 (0, 0)) ∧ Below w.heap.size w w' := by
  have HB := Below.refl w.heap.size w
  go_enter Try.func108, Try.ntmps108
  go_wp2
  go_ret
  exact ⟨rfl, World.alloc_heap_new _ _, HB.alloc (Nat.le_refl _) _⟩
def accLo (r : S82) (t : S29) (p f s o : Int) (k : Nat) : Int := match k with
  | 0 => 0
  | 1 => wrap64 (a1 r t p f s o)
  | 2 => wrap64 (wrap64 (a1 r t p f s o) + a2 r t p f s o)
  | 3 => wrap64 (wrap64 (wrap64 (a1 r t p f s o) + a2 r t p f s o) + a3 r t p f s o)
  | _ => wrap64 (wrap64 (wrap64 (wrap64 (a1 r t p f s o) + a2 r t p f s o) + a3 r t p f s o) + o)
def accHi (r : S82) (t : S29) (p f s o : Int) (k : Nat) : Int := match k with
  | 0 => 0
  | 1 => wrap64 (b1 r t p f s o)
  | 2 => wrap64 (wrap64 (b1 r t p f s o) + b2 r t p f s o)
  | 3 => wrap64 (wrap64 (wrap64 (b1 r t p f s o) + b2 r t p f s o) + b3 r t p f s o)
  | _ => wrap64 (wrap64 (wrap64 (wrap64 (b1 r t p f s o) + b2 r t p f s o) + b3 r t p f s o) + o)
theorem set_fst {W : World} {b : Nat} {u x v : Value} {t : TypeId} {fr : Nat × Nat} (h : W.heap[b]? = some (.cells #[u, x] t fr)) : (W.setCell ⟨b, 0, none⟩ v).heap[b]? = some (.cells #[v, x] t fr) := by
  simp [World.setCell, Array.getElem?_modify, h]
theorem set_snd {W : World} {b : Nat} {u x v : Value} {t : TypeId} {fr : Nat × Nat} (h : W.heap[b]? = some (.cells #[u, x] t fr)) : (W.setCell ⟨b, 1, none⟩ v).heap[b]? = some (.cells #[u, v] t fr) := by
  simp [World.setCell, Array.getElem?_modify, h]
theorem set_other {W : World} {p : Addr} {k : Nat} {v : Value} {o : Obj} (hne : k ≠ p.block) (h : W.heap[k]? = some o) : (W.setCell p v).heap[k]? = some o := (Below.heap_setCell _ _ _ _ hne).trans h
structure StressI (w : World) (r : S82) (t : S29) (p f s o : Int) (k : Nat) (W : World) : Prop where
  h0 : W.heap[w.heap.size]? = some (.cells (ringC r) 82 (0, 0))
  h1 : W.heap[w.heap.size + 1]? = some (.cells #[.int .i64 t.f0, .int .i64 t.f1] 29 (0, 0))
  h2 : W.heap[w.heap.size + 1 + 1]? = some (.cells #[.int .i64 p, .int .i64 f, .int .i64 s, .int .i64 o] 27 (0, 0))
  h3 : W.heap[w.heap.size + 1 + 1 + 1]? = some (.cells #[.int .i64 0, .int .i64 0] 29 (0, 0))
  h4 : W.heap[w.heap.size + 1 + 1 + 1 + 1]? = some (.cells #[.int .i64 (accLo r t p f s o k), .int .i64 (accHi r t p f s o k)] 29 (0, 0))
  h5 : W.heap[w.heap.size + 1 + 1 + 1 + 1 + 1]? = some (.cells #[.func (.func 119) #[] #[], .func (.func 120) #[] #[], .func (.func 121) #[] #[], .func (.func 122) #[] #[]] 125 (0, 0))
  hb : Below w.heap.size w W
theorem StressI.grow {w W W' : World} {r : S82} {t : S29} {p f s o : Int} {k : Nat} (h : StressI w r t p f s o k W) (hb : Below W.heap.size W W') : StressI w r t p f s o k W' :=
  ⟨heap_grow h.h0 hb, heap_grow h.h1 hb, heap_grow h.h2 hb, heap_grow h.h3 hb, heap_grow h.h4 hb, heap_grow h.h5 hb, h.hb.trans (hb.mono h.hb.size)⟩
theorem StressI.add {w W : World} {r : S82} {t : S29} {p f s o : Int} {k : Nat} (h : StressI w r t p f s o k W) {u v : Int} (hu : u = accLo r t p f s o (k + 1)) (hv : v = accHi r t p f s o (k + 1)) :
    StressI w r t p f s o (k + 1) ((W.setCell ⟨w.heap.size + 1 + 1 + 1 + 1, 0, none⟩ (.int .i64 u)).setCell ⟨w.heap.size + 1 + 1 + 1 + 1, 1, none⟩ (.int .i64 v)) := by
  subst hu hv
  refine ⟨set_other (by simp; omega) (set_other (by simp; omega) h.h0), set_other (by simp) (set_other (by simp) h.h1), set_other (by simp) (set_other (by simp) h.h2), set_other (by simp) (set_other (by simp) h.h3), ?_, set_other (by simp) (set_other (by simp) h.h5), (h.hb.setCell (by simp; omega) _).setCell (by simp; omega) _⟩
  exact set_snd (set_fst h.h4)
set_option maxRecDepth 100000 in
set_option maxHeartbeats 2000000 in
theorem stress_walk (r : S82) (t : S29) (p f s o : Int) (w : World) (h1 : ¬ wrap64 (100 * t.f1) = 0) (h2 : ¬ wrap64 (100 * t.f0) = 0) (h3 : ¬ wrap64 (wrap64 (355 * r.f0.f1) * t.f1) = 0) (h4 : ¬ wrap64 (wrap64 (333 * r.f0.f0) * t.f0) = 0) (h5 : ¬ t.f1 = 0) (h6 : ¬ t.f0 = 0) :
    Calls Try.prog 82 #[ringV r, .agg #[.int .i64 t.f0, .int .i64 t.f1], .agg #[.int .i64 p, .int .i64 f, .int .i64 s, .int .i64 o]] w fun e w' => e = .returned (.agg #[.int .i64 (accLo r t p f s o 4), .int .i64 (accHi r t p f s o 4)]) ∧ Below w.heap.size w w' := by
  have HB := Below.refl w.heap.size w
  have hu := Try.underlying82
  have hu2 := Try.underlying29
  have hu3 := Try.underlying27
  unfold ringV
  go_enter Try.func82, Try.ntmps82
  go_wp2_with fail
  have hbel := ((((HB.alloc (Nat.le_refl _) (.cells (ringC r) 82)).alloc (by simp) (.cells #[.int .i64 t.f0, .int .i64 t.f1] 29)).alloc (by simp; omega) (.cells #[.int .i64 p, .int .i64 f, .int .i64 s, .int .i64 o] 27)).alloc (by simp; omega) (.cells #[.int .i64 0, .int .i64 0] 29)).alloc (by simp; omega) (.cells #[.int .i64 0, .int .i64 0] 29)
  have e0 := World.alloc_heap_new w (.cells (ringC r) 82)
  have e1 := World.alloc_heap_new (w.alloc (.cells (ringC r) 82)) (.cells #[.int .i64 t.f0, .int .i64 t.f1] 29)
  have e2 := World.alloc_heap_new ((w.alloc (.cells (ringC r) 82)).alloc (.cells #[.int .i64 t.f0, .int .i64 t.f1] 29)) (.cells #[.int .i64 p, .int .i64 f, .int .i64 s, .int .i64 o] 27)
  have e3 := World.alloc_heap_new (((w.alloc (.cells (ringC r) 82)).alloc (.cells #[.int .i64 t.f0, .int .i64 t.f1] 29)).alloc (.cells #[.int .i64 p, .int .i64 f, .int .i64 s, .int .i64 o] 27)) (.cells #[.int .i64 0, .int .i64 0] 29)
  have e4 := World.alloc_heap_new ((((w.alloc (.cells (ringC r) 82)).alloc (.cells #[.int .i64 t.f0, .int .i64 t.f1] 29)).alloc (.cells #[.int .i64 p, .int .i64 f, .int .i64 s, .int .i64 o] 27)).alloc (.cells #[.int .i64 0, .int .i64 0] 29)) (.cells #[.int .i64 0, .int .i64 0] 29)
  have e0 := alloc_old (o' := .cells #[.int .i64 0, .int .i64 0] 29) (alloc_old (o' := .cells #[.int .i64 0, .int .i64 0] 29) (alloc_old (o' := .cells #[.int .i64 p, .int .i64 f, .int .i64 s, .int .i64 o] 27) (alloc_old (o' := .cells #[.int .i64 t.f0, .int .i64 t.f1] 29) e0)))
  have e1 := alloc_old (o' := .cells #[.int .i64 0, .int .i64 0] 29) (alloc_old (o' := .cells #[.int .i64 0, .int .i64 0] 29) (alloc_old (o' := .cells #[.int .i64 p, .int .i64 f, .int .i64 s, .int .i64 o] 27) e1))
  have e2 := alloc_old (o' := .cells #[.int .i64 0, .int .i64 0] 29) (alloc_old (o' := .cells #[.int .i64 0, .int .i64 0] 29) e2)
  have e3 := alloc_old (o' := .cells #[.int .i64 0, .int .i64 0] 29) e3
  have hsz : (((((w.alloc (.cells (ringC r) 82)).alloc (.cells #[.int .i64 t.f0, .int .i64 t.f1] 29)).alloc (.cells #[.int .i64 p, .int .i64 f, .int .i64 s, .int .i64 o] 27)).alloc (.cells #[.int .i64 0, .int .i64 0] 29)).alloc (.cells #[.int .i64 0, .int .i64 0] 29)).heap.size = w.heap.size + 1 + 1 + 1 + 1 + 1 := by simp
  simp only [World.size_alloc] at e1 e2 e3 e4
  simp only [ringC] at e0 e1 e2 e3 e4 hbel hsz
  generalize (((((w.alloc (.cells #[.int .i64 r.f0.f0, .int .i64 r.f0.f1, .int .i64 r.f1.f0, .int .i64 r.f1.f1, .int .i64 r.f2.f0, .int .i64 r.f2.f1, .int .i64 r.f3.f0, .int .i64 r.f3.f1, .int .i64 r.f4.f0, .int .i64 r.f4.f1] 82)).alloc (.cells #[.int .i64 t.f0, .int .i64 t.f1] 29)).alloc (.cells #[.int .i64 p, .int .i64 f, .int .i64 s, .int .i64 o] 27)).alloc (.cells #[.int .i64 0, .int .i64 0] 29)).alloc (.cells #[.int .i64 0, .int .i64 0] 29)) = W5 at *
  refine (parts_any _).mono ?_
  rintro e w1 ⟨rfl, hf, hb⟩
  rw [hsz] at hf
  have HI0 := hid (show StressI w r t p f s o 0 w1 from ⟨heap_grow e0 hb, heap_grow e1 hb, heap_grow e2 hb, heap_grow e3 hb, heap_grow e4 hb, hf, hbel.trans (hb.mono hbel.size)⟩)
  rw [hsz]
  clear hf hb hsz e0 e1 e2 e3 e4 hbel HB
  go_wp2
  go_loopw [14] (fun v14 W => ∃ k : Nat, k ≤ 4 ∧ v14 = .int .i64 k ∧ Hid (StressI w r t p f s o k W)) (fun v14 _ => 4 - (intOf v14).toNat)
  case atStart => exact ⟨0, by omega, rfl, HI0⟩
  case round =>
    obtain ⟨k, hk, rfl, HI⟩ := hrel
    have c0 := blkCell HI.out.h0 0
    have c1 := blkCell HI.out.h0 1
    have c2 := blkCell HI.out.h0 2
    have c3 := blkCell HI.out.h0 3
    have c4 := blkCell HI.out.h0 4
    have c5 := blkCell HI.out.h0 5
    have c6 := blkCell HI.out.h0 6
    have c7 := blkCell HI.out.h0 7
    have c8 := blkCell HI.out.h0 8
    have c9 := blkCell HI.out.h0 9
    have d0 := blkCell HI.out.h1 0
    have d1 := blkCell HI.out.h1 1
    have l0 := blkCell HI.out.h2 0
    have l1 := blkCell HI.out.h2 1
    have l2 := blkCell HI.out.h2 2
    have l3 := blkCell HI.out.h2 3
    have g0 := blkCell HI.out.h5 0
    have g1 := blkCell HI.out.h5 1
    have g2 := blkCell HI.out.h5 2
    have g3 := blkCell HI.out.h5 3
    simp [ringC] at c0 c1 c2 c3 c4 c5 c6 c7 c8 c9 d0 d1 l0 l1 l2 l3 g0 g1 g2 g3
    rcases (show k = 0 ∨ k = 1 ∨ k = 2 ∨ k = 3 ∨ k = 4 by omega) with rfl | rfl | rfl | rfl | rfl
    · go_wp2_with (first | (go_at_call 119; refine (part1_any r t p f s o _ h1 h2).mono ?_; rintro e w2 ⟨rfl, hb⟩; have HI2 := hid (HI.out.grow hb); have z0 := blkCell HI2.out.h4 0; have z1 := blkCell HI2.out.h4 1; have z2 := blkFrozen HI2.out.h4 0; have z3 := blkFrozen HI2.out.h4 1; simp [accLo, accHi] at z0 z1; clear c0 c1 c2 c3 c4 c5 c6 c7 c8 c9 d0 d1 l0 l1 l2 l3 g0 g1 g2 g3 hb))
      go_roundw
      case rel => exact ⟨1, by omega, rfl, hid (HI2.out.add rfl rfl)⟩
      case measure => simp [intOf]
    · go_wp2_with (first | (go_at_call 120; refine (part2_any r t p f s o _ h3 h4).mono ?_; rintro e w2 ⟨rfl, hb⟩; have HI2 := hid (HI.out.grow hb); have z0 := blkCell HI2.out.h4 0; have z1 := blkCell HI2.out.h4 1; have z2 := blkFrozen HI2.out.h4 0; have z3 := blkFrozen HI2.out.h4 1; simp [accLo, accHi] at z0 z1; clear c0 c1 c2 c3 c4 c5 c6 c7 c8 c9 d0 d1 l0 l1 l2 l3 g0 g1 g2 g3 hb))
      go_roundw
      case rel => exact ⟨2, by omega, rfl, hid (HI2.out.add rfl rfl)⟩
      case measure => simp [intOf]
    · go_wp2_with (first | (go_at_call 121; refine (part3_any r t p f s o _ h5 h6).mono ?_; rintro e w2 ⟨rfl, hb⟩; have HI2 := hid (HI.out.grow hb); have z0 := blkCell HI2.out.h4 0; have z1 := blkCell HI2.out.h4 1; have z2 := blkFrozen HI2.out.h4 0; have z3 := blkFrozen HI2.out.h4 1; simp [accLo, accHi] at z0 z1; clear c0 c1 c2 c3 c4 c5 c6 c7 c8 c9 d0 d1 l0 l1 l2 l3 g0 g1 g2 g3 hb))
      go_roundw
      case rel => exact ⟨3, by omega, rfl, hid (HI2.out.add rfl rfl)⟩
      case measure => simp [intOf]
    · go_wp2_with (first | (go_at_call 122; refine (part4_any r t p f s o _ ).mono ?_; rintro e w2 ⟨rfl, hb⟩; have HI2 := hid (HI.out.grow hb); have z0 := blkCell HI2.out.h4 0; have z1 := blkCell HI2.out.h4 1; have z2 := blkFrozen HI2.out.h4 0; have z3 := blkFrozen HI2.out.h4 1; simp [accLo, accHi] at z0 z1; clear c0 c1 c2 c3 c4 c5 c6 c7 c8 c9 d0 d1 l0 l1 l2 l3 g0 g1 g2 g3 hb))
      go_roundw
      case rel => exact ⟨4, by omega, rfl, hid (HI2.out.add rfl rfl)⟩
      case measure => simp [intOf]
    · clear c0 c1 c2 c3 c4 c5 c6 c7 c8 c9 d0 d1 l0 l1 l2 l3 g0 g1 g2 g3
      have z0 := blkCell HI.out.h4 0
      have z1 := blkCell HI.out.h4 1
      have z2 := blkFrozen HI.out.h3 0
      have z3 := blkFrozen HI.out.h3 1
      have y0 := blkCell HI.out.h3 0
      have y1 := blkCell HI.out.h3 1
      simp at z0 z1 y0 y1
      go_wp2
      refine bodyPost_ret (v := .agg #[.int .i64 (accLo r t p f s o 4), .int .i64 (accHi r t p f s o 4)]) (by simp [results, Try.results82, go_sem, y0, y1]) rfl ⟨rfl, ?_⟩
      exact (HI.out.hb.setCell (p := ⟨w.heap.size + 1 + 1 + 1, 0, none⟩) (by simp; omega) _).setCell (p := ⟨w.heap.size + 1 + 1 + 1, 1, none⟩) (by simp; omega) _
/- exactness -/
theorem wrap64_id {n : Int} (h0 : -9223372036854775808 ≤ n) (h1 : n ≤ 9223372036854775807) : wrap64 n = n := by
  rw [← wrap_i]; exact IntWalk.i64_in _ (by omega)
theorem down_ex {a b : Int} (h0 : 0 ≤ a) (h1 : a ≤ 4000000000000000000) (hb : 1 ≤ b) : downW a b = a / b ∧ 0 ≤ a / b ∧ a / b ≤ a := by
  have h2 := Int.ediv_nonneg h0 (show 0 ≤ b by omega)
  have h3 := Int.ediv_le_self b h0
  refine ⟨?_, h2, h3⟩
  unfold downW
  rw [Int.tdiv_eq_ediv_of_nonneg h0, wrap64_id (by omega) (by omega)]
def upE (a b : Int) : Int := (a + b - 1) / b
theorem up_ex {a b : Int} (h0 : 0 ≤ a) (h1 : a ≤ 4000000000000000000) (hb : 1 ≤ b) (hb1 : b ≤ 4000000000000000000) : upW a b = upE a b ∧ 0 ≤ upE a b ∧ upE a b ≤ a := by
  have h2 := Int.ediv_nonneg (show 0 ≤ a + b - 1 by omega) (show 0 ≤ b by omega)
  have h3 : (a + b - 1) / b ≤ a := by
    rcases Int.lt_or_eq_of_le h0 with h | h
    · have : a + b - 1 ≤ a * b := by
        have := Int.mul_nonneg (show 0 ≤ a - 1 by omega) (show 0 ≤ b - 1 by omega)
        rw [Int.sub_mul, Int.mul_sub] at this; omega
      calc (a + b - 1) / b ≤ (a * b) / b := Int.ediv_le_ediv (by omega) this
        _ = a := Int.mul_ediv_cancel _ (by omega)
    · subst h
      rw [show (0 : Int) + b - 1 = b - 1 by omega, Int.ediv_eq_zero_of_lt (by omega) (by omega)]; exact Int.le_refl _
  refine ⟨?_, h2, h3⟩
  unfold upW upE
  rw [wrap64_id (n := a + b) (by omega) (by omega), wrap64_id (n := a + b - 1) (by omega) (by omega), Int.tdiv_eq_ediv_of_nonneg (by omega)]
  exact wrap64_id (by omega) (by omega)
theorem thick_ok {t : S29} (h : okThick t = true) : 1 ≤ t.f0 ∧ t.f0 ≤ t.f1 ∧ t.f1 ≤ 2000 := by
  simp only [okThick, spanB, Bool.and_eq_true, decide_eq_true_eq] at h
  omega
theorem load_ok {p f s o : Int} (h : loadOk p f s o = true) : 0 ≤ p ∧ p ≤ 10000 ∧ 0 ≤ f ∧ f ≤ 20000 ∧ 0 ≤ s ∧ s ≤ 2000 ∧ 0 ≤ o ∧ o ≤ 10000000 := by
  simp only [loadOk, betw, Bool.and_eq_true, decide_eq_true_eq] at h
  omega
def stLo (r : S82) (t : S29) (p f s o : Int) : Int := p * r.f0.f0 * r.f3.f0 / (100 * t.f1) + 500000 * f * 113 / (355 * r.f0.f1 * t.f1) + r.f4.f0 * s / t.f1 + o
def stHi (r : S82) (t : S29) (p f s o : Int) : Int := upE (p * r.f0.f1 * r.f3.f1) (100 * t.f0) + upE (500000 * f * 106) (333 * r.f0.f0 * t.f0) + upE (r.f4.f1 * s) t.f0 + o
theorem stress_div {r : S82} {t : S29} (hr : ringOk r = true) (ht : okThick t = true) : ¬ wrap64 (100 * t.f1) = 0 ∧ ¬ wrap64 (100 * t.f0) = 0 ∧ ¬ wrap64 (wrap64 (355 * r.f0.f1) * t.f1) = 0 ∧ ¬ wrap64 (wrap64 (333 * r.f0.f0) * t.f0) = 0 ∧ ¬ t.f1 = 0 ∧ ¬ t.f0 = 0 := by
  obtain ⟨r1, r2, r3, _⟩ := ring_ok hr
  obtain ⟨t1, t2, t3⟩ := thick_ok ht
  have a1 := mul_pos_le (a := 355 * r.f0.f1) (b := t.f1) (A := 355000) (B := 2000) (by omega) (by omega) (by omega) (by omega)
  have a2 := mul_pos_le (a := 333 * r.f0.f0) (b := t.f0) (A := 333000) (B := 2000) (by omega) (by omega) (by omega) (by omega)
  rw [wrap64_id (n := 355 * r.f0.f1) (by omega) (by omega), wrap64_id (n := 333 * r.f0.f0) (by omega) (by omega), wrap64_id (n := 100 * t.f1) (by omega) (by omega), wrap64_id (n := 100 * t.f0) (by omega) (by omega), wrap64_id (by omega) (by omega), wrap64_id (by omega) (by omega)]
  omega
theorem stress_ex {r : S82} {t : S29} {p f s o : Int} (hr : ringOk r = true) (ht : okThick t = true) (hl : loadOk p f s o = true) :
    accLo r t p f s o 4 = stLo r t p f s o ∧ accHi r t p f s o 4 = stHi r t p f s o ∧ 0 ≤ stLo r t p f s o ∧ stLo r t p f s o ≤ 10000000000000 ∧ 0 ≤ stHi r t p f s o ∧ stHi r t p f s o ≤ 10000000000000 := by
  obtain ⟨r1, r2, r3, _, _, _, _, _, _, r7, r8, r9, r10, r11, r12⟩ := ring_ok hr
  obtain ⟨t1, t2, t3⟩ := thick_ok ht
  obtain ⟨l1, l2, l3, l4, l5, l6, l7, l8⟩ := load_ok hl
  have c1 := mul_nn_le (a := p) (b := r.f0.f0) (A := 10000) (B := 1000) (by omega) (by omega) (by omega) (by omega)
  have c2 := mul_nn_le (a := p * r.f0.f0) (b := r.f3.f0) (A := 10000 * 1000) (B := 10000) (by omega) (by omega) (by omega) (by omega)
  have c3 := mul_nn_le (a := p) (b := r.f0.f1) (A := 10000) (B := 1000) (by omega) (by omega) (by omega) (by omega)
  have c4 := mul_nn_le (a := p * r.f0.f1) (b := r.f3.f1) (A := 10000 * 1000) (B := 10000) (by omega) (by omega) (by omega) (by omega)
  have c5 := mul_pos_le (a := 355 * r.f0.f1) (b := t.f1) (A := 355000) (B := 2000) (by omega) (by omega) (by omega) (by omega)
  have c6 := mul_pos_le (a := 333 * r.f0.f0) (b := t.f0) (A := 333000) (B := 2000) (by omega) (by omega) (by omega) (by omega)
  have c7 := mul_nn_le (a := r.f4.f0) (b := s) (A := 10000) (B := 2000) (by omega) (by omega) (by omega) (by omega)
  have c8 := mul_nn_le (a := r.f4.f1) (b := s) (A := 10000) (B := 2000) (by omega) (by omega) (by omega) (by omega)
  obtain ⟨d1, d2, d3⟩ := down_ex (a := p * r.f0.f0 * r.f3.f0) (b := 100 * t.f1) (by omega) (by omega) (by omega)
  obtain ⟨d4, d5, d6⟩ := down_ex (a := 500000 * f * 113) (b := 355 * r.f0.f1 * t.f1) (by omega) (by omega) (by omega)
  obtain ⟨d7, d8, d9⟩ := down_ex (a := r.f4.f0 * s) (b := t.f1) (by omega) (by omega) (by omega)
  obtain ⟨u1, u2, u3⟩ := up_ex (a := p * r.f0.f1 * r.f3.f1) (b := 100 * t.f0) (by omega) (by omega) (by omega) (by omega)
  obtain ⟨u4, u5, u6⟩ := up_ex (a := 500000 * f * 106) (b := 333 * r.f0.f0 * t.f0) (by omega) (by omega) (by omega) (by omega)
  obtain ⟨u7, u8, u9⟩ := up_ex (a := r.f4.f1 * s) (b := t.f0) (by omega) (by omega) (by omega) (by omega)
  have e1 : a1 r t p f s o = p * r.f0.f0 * r.f3.f0 / (100 * t.f1) := by
    unfold a1; rw [wrap64_id (n := p * r.f0.f0) (by omega) (by omega), wrap64_id (n := p * r.f0.f0 * r.f3.f0) (by omega) (by omega), wrap64_id (n := 100 * t.f1) (by omega) (by omega)]; exact d1
  have e2 : a2 r t p f s o = 500000 * f * 113 / (355 * r.f0.f1 * t.f1) := by
    unfold a2; rw [wrap64_id (n := 500000 * f) (by omega) (by omega), wrap64_id (n := 500000 * f * 113) (by omega) (by omega), wrap64_id (n := 355 * r.f0.f1) (by omega) (by omega), wrap64_id (n := 355 * r.f0.f1 * t.f1) (by omega) (by omega)]; exact d4
  have e3 : a3 r t p f s o = r.f4.f0 * s / t.f1 := by
    unfold a3; rw [wrap_i, wrap64_id (n := r.f4.f0 * s) (by omega) (by omega)]; exact d7
  have f1 : b1 r t p f s o = upE (p * r.f0.f1 * r.f3.f1) (100 * t.f0) := by
    unfold b1; rw [wrap64_id (n := p * r.f0.f1) (by omega) (by omega), wrap64_id (n := p * r.f0.f1 * r.f3.f1) (by omega) (by omega), wrap64_id (n := 100 * t.f0) (by omega) (by omega)]; exact u1
  have f2 : b2 r t p f s o = upE (500000 * f * 106) (333 * r.f0.f0 * t.f0) := by
    unfold b2; rw [wrap64_id (n := 500000 * f) (by omega) (by omega), wrap64_id (n := 500000 * f * 106) (by omega) (by omega), wrap64_id (n := 333 * r.f0.f0) (by omega) (by omega), wrap64_id (n := 333 * r.f0.f0 * t.f0) (by omega) (by omega)]; exact u4
  have f3 : b3 r t p f s o = upE (r.f4.f1 * s) t.f0 := by
    unfold b3; rw [wrap_i, wrap64_id (n := r.f4.f1 * s) (by omega) (by omega)]; exact u7
  simp only [accLo, accHi, e1, e2, e3, f1, f2, f3]
  rw [wrap64_id (n := p * r.f0.f0 * r.f3.f0 / (100 * t.f1)) (by omega) (by omega), wrap64_id (n := p * r.f0.f0 * r.f3.f0 / (100 * t.f1) + 500000 * f * 113 / (355 * r.f0.f1 * t.f1)) (by omega) (by omega), wrap64_id (n := p * r.f0.f0 * r.f3.f0 / (100 * t.f1) + 500000 * f * 113 / (355 * r.f0.f1 * t.f1) + r.f4.f0 * s / t.f1) (by omega) (by omega), wrap64_id (n := p * r.f0.f0 * r.f3.f0 / (100 * t.f1) + 500000 * f * 113 / (355 * r.f0.f1 * t.f1) + r.f4.f0 * s / t.f1 + o) (by omega) (by omega)]
  rw [wrap64_id (n := upE (p * r.f0.f1 * r.f3.f1) (100 * t.f0)) (by omega) (by omega), wrap64_id (n := upE (p * r.f0.f1 * r.f3.f1) (100 * t.f0) + upE (500000 * f * 106) (333 * r.f0.f0 * t.f0)) (by omega) (by omega), wrap64_id (n := upE (p * r.f0.f1 * r.f3.f1) (100 * t.f0) + upE (500000 * f * 106) (333 * r.f0.f0 * t.f0) + upE (r.f4.f1 * s) t.f0) (by omega) (by omega), wrap64_id (n := upE (p * r.f0.f1 * r.f3.f1) (100 * t.f0) + upE (500000 * f * 106) (333 * r.f0.f0 * t.f0) + upE (r.f4.f1 * s) t.f0 + o) (by omega) (by omega)]
  refine ⟨rfl, rfl, ?_, ?_, ?_, ?_⟩ <;> simp only [stLo, stHi] <;> omega
theorem stress_any (r : S82) (t : S29) (p f s o : Int) (w : World) (hr : ringOk r = true) (ht : okThick t = true) (hl : loadOk p f s o = true) :
    Calls Try.prog 82 #[ringV r, .agg #[.int .i64 t.f0, .int .i64 t.f1], .agg #[.int .i64 p, .int .i64 f, .int .i64 s, .int .i64 o]] w fun e w' => e = .returned (.agg #[.int .i64 (stLo r t p f s o), .int .i64 (stHi r t p f s o)]) ∧ Below w.heap.size w w' := by
  obtain ⟨h1, h2, h3, h4, h5, h6⟩ := stress_div hr ht
  obtain ⟨e1, e2, _⟩ := stress_ex hr ht hl
  rw [← e1, ← e2]
  exact stress_walk r t p f s o w h1 h2 h3 h4 h5 h6
/- limit -/
def lims (n s : Int) : Bool := decide (n < s * s)
def limitOf (fl tg : Int) : Int := firstOf (lims (tg / fl)) 0 40000000 - 1
theorem enters118 : ∀ args w, (callFunc 118 args).run Try.prog w = .ok (.enter 118 args) w := enters_of Try.func118 (by kernel_rfl) rfl
theorem limit1_any (n x : Int) (B : Nat) (W : World) (hc : W.cell? ⟨B, 0, none⟩ = some (.int .i64 n)) (h0 : 0 ≤ x) (h1 : x ≤ 40000000) :
    Calls Try.prog 118 #[.int .i64 x, .pointer (some ⟨B, 0, none⟩)] W fun e w' => e = .returned (.bool (lims n x)) ∧ Below W.heap.size W w' := by
  have hm := mul_nn_le h0 h1 h0 h1
  have HW := hid (wrap64_id (n := x * x) (by omega) (by omega))
  clear hm
  go_enter Try.func118, Try.ntmps118
  go_wp2
  refine bodyPost_ret (v := .bool (lims n x)) (by simp [results, Try.results118, go_sem]; unfold lims; rw [HW.out]) rfl ⟨rfl, Below.refl _ _⟩
set_option maxRecDepth 100000 in
set_option maxHeartbeats 1000000 in
theorem limit_any (A : Option Addr) (c n0 : Nat) (fl tg : Int) (w : World) (h1 : 1 ≤ fl) (h2 : fl ≤ 1000) (h3 : 0 ≤ tg) (h4 : tg ≤ 1000000000000000) :
    Calls Try.prog 106 #[.agg #[.slice A n0 c, .int .i64 fl, .int .i64 tg]] w (ReturnsInt (limitOf fl tg) w) := by
  have HB := Below.refl w.heap.size w
  have hmf := makeFunc_any
  have hne : ¬ fl = 0 := by omega
  have hq0 := Int.ediv_nonneg h3 (show 0 ≤ fl by omega)
  have hq1 := Int.ediv_le_self fl h3
  have HQ := hid (show wrap64 (Int.tdiv tg fl) = tg / fl by rw [Int.tdiv_eq_ediv_of_nonneg h3]; exact wrap64_id (by omega) (by omega))
  have H := hid (And.intro h1 (And.intro h2 (And.intro h3 h4)))
  have hu := Try.underlying24
  clear h1 h2 h3 h4 hq0 hq1
  go_enter Try.func106, Try.ntmps106
  go_wp2_with fail
  have hbel := (HB.alloc (Nat.le_refl _) (.cells #[.slice A n0 c, .int .i64 fl, .int .i64 tg] 24)).alloc (by simp) (.cells #[.int .i64 (wrap64 (tg.tdiv fl))] 3)
  have hc : ((w.alloc (.cells #[.slice A n0 c, .int .i64 fl, .int .i64 tg] 24)).alloc (.cells #[.int .i64 (wrap64 (tg.tdiv fl))] 3)).cell? ⟨w.heap.size + 1, 0, none⟩ = some (.int .i64 (tg / fl)) := by
    rw [← HQ.out]; go_simp
  have hA : Asks 118 #[.pointer (some ⟨w.heap.size + 1, 0, none⟩)] (lims (tg / fl)) 0 (40000000 + 1) ((w.alloc (.cells #[.slice A n0 c, .int .i64 fl, .int .i64 tg] 24)).alloc (.cells #[.int .i64 (wrap64 (tg.tdiv fl))] 3)) := by
    intro W x hW h0 h1
    have := limit1_any (tg / fl) x _ W (cell_grow hc hW) h0 (by omega)
    simpa only [List.push_toArray, List.append_toArray, List.cons_append, List.nil_append] using this
  refine (first_any 118 _ enters118 (lims (tg / fl)) 0 40000000 _ (by omega) (by omega) (by omega) hA).mono ?_
  rintro e w1 ⟨rfl, hb⟩
  have HB1 := hid (hbel.trans (hb.mono hbel.size))
  have hbg := firstOf_begins (lims (tg / fl)) (lo := 0) (hi := 40000000) (by omega)
  have HV := hid (show wrap64 (firstOf (lims (tg / fl)) 0 40000000 - 1) = limitOf fl tg from wrap64_id (by have := hbg.1; omega) (by have := hbg.2.1; omega))
  clear hbg hb hbel hc hA HB
  go_wp2
  refine bodyPost_ret (v := .int .i64 (limitOf fl tg)) (by simp [results, Try.results106, go_sem]; rw [HV.out]) rfl ⟨rfl, HB1.out⟩
theorem limit_bears {fl tg : Int} (h1 : 1 ≤ fl) (h3 : 0 ≤ tg) (h4 : tg ≤ 1000000000000000) {x : Int} (hx : 0 ≤ x) : (x ≤ limitOf fl tg ↔ x * x ≤ tg / fl) ∧ -1 ≤ limitOf fl tg ∧ limitOf fl tg < 40000000 := by
  have hq0 := Int.ediv_nonneg h3 (show 0 ≤ fl by omega)
  have hq1 := Int.ediv_le_self fl h3
  obtain ⟨b1, b2, b3, b4⟩ := firstOf_begins (lims (tg / fl)) (lo := 0) (hi := 40000000) (by omega)
  have hlt : firstOf (lims (tg / fl)) 0 40000000 ≤ 40000000 := by
    apply Decidable.byContradiction
    intro hn
    have := b3 (by omega)
    rw [show firstOf (lims (tg / fl)) 0 40000000 - 1 = 40000000 by omega] at this
    simp [lims] at this
    omega
  refine ⟨?_, by unfold limitOf; omega, by unfold limitOf; omega⟩
  unfold limitOf
  constructor
  · intro hxl
    have h := b3 (by omega)
    simp [lims] at h
    have := Int.mul_le_mul hxl hxl hx (by omega)
    omega
  · intro hxx
    apply Decidable.byContradiction
    intro hn
    have h := b4 (by omega)
    simp [lims] at h
    have := Int.mul_le_mul (show firstOf (lims (tg / fl)) 0 40000000 ≤ x by omega) (show firstOf (lims (tg / fl)) 0 40000000 ≤ x by omega) b1 hx
    omega
end Go.Proofs.Ythoofldinnfpiaa
