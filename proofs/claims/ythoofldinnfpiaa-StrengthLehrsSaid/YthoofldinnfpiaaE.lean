import Derived.Test.YthoofldinnfpiaaD
import Derived.RecoverIn
namespace Go.Proofs.Ythoofldinnfpiaa
open Go.RowKit Go.Proofs.YthoofldinnfpiaaW.PrintWords Go.Proofs.YthoofldinnfpiaaW.PrintLast Go.Proofs.YthoofldinnfpiaaW.PrintMore
open Q Go.Shelf
attribute [local go_sem] wide_depth wide_fn
theorem callsDW {P : Program} {f : FuncId} {fn : Func} {c : Code} {args : Array Value} {u : FrameMode} {w : World} {R : Ending → FrameMode → World → Prop}
    (hf : P.funcs[f]? = some fn) (hb : fn.body = some c)
    (h : ∀ (c₀ : Frame) (cs : List Frame), c₀.mode = u →
      c.wpS P (bodyPostS P fn c₀ cs R) { tmps := args ++ Array.replicate (fn.ntmps - args.size) undef, defers := [] } (c₀ :: cs) w) :
    CallsDIn Fence.wide 0 P f args u w R := by
  refine ⟨trivial, fun c₀ cs hu _ => ?_⟩
  let b : Frame := { (default : Frame) with fn := f, kind := .deferred }
  have henter : Frame.enter P f args .deferred =
      b.at { tmps := args ++ Array.replicate (fn.ntmps - args.size) undef, defers := [] } [.code c] := by
    simp [Frame.enter, Frame.at, hf, hb, b]
  obtain ⟨e, a', cs', w', hq, harr⟩ := h c₀ cs hu b [] rfl rfl
  rw [← henter] at harr
  cases e with
  | normal =>
    obtain ⟨hd, u', rfl, v, hr, hR⟩ := hq
    exact ⟨.returned v, u', w', _, hR, stepsIn_wide.2 (Steps.trans harr (.one step_end)), rfl, rfl, rfl, hd, fn, hf, hr⟩
  | ret =>
    obtain ⟨hd, u', rfl, v, hr, hR⟩ := hq
    obtain ⟨todo, hs⟩ := harr
    exact ⟨.returned v, u', w', _, hR, stepsIn_wide.2 hs, rfl, rfl, rfl, hd, fn, hf, hr⟩
  | panic chain =>
    obtain ⟨hd, u', rfl, hR⟩ := hq
    obtain ⟨todo, hs⟩ := harr
    exact ⟨.panicked chain, u', w', _, hR, stepsIn_wide.2 hs, rfl, rfl, rfl, hd, fn, hf⟩
  | exit id => exact hq.elim
  | goto l => exact hq.elim
  | outgrown =>
    obtain ⟨u', hR⟩ := hq
    exact ⟨.outgrown, u', w', b, hR, harr.resolve_left (by simp [b]), rfl, rfl, trivial⟩
theorem caught_nil (p : Addr) (w : World) : Calls Try.prog 50 #[.nilIface, .pointer (some p)] w fun e w' => e = .returned (.tuple #[]) ∧ w = w' := by
  go_enter Try.func50, Try.ntmps50
  go_wp2
  go_end0
  exact ⟨rfl, rfl⟩
def caughtW (B : Nat) (c : Int) (w : World) : World := (w.setCell ⟨B, 0, none⟩ (.int .i64 c)).alloc (.cells #[.int .i64 c] 113)
set_option maxRecDepth 100000 in
theorem caught_fail (B : Nat) (c u : Int) (w : World) (hc : w.cell? ⟨B, 0, none⟩ = some (.int .i64 u)) (hf : w.frozen? ⟨B, 0, none⟩ = false) :
    Calls Try.prog 50 #[.iface 113 (.agg #[.int .i64 c]), .pointer (some ⟨B, 0, none⟩)] w fun e w' => e = .returned (.tuple #[]) ∧ caughtW B c w = w' := by
  have hlt := cell_lt hc
  have hta : ∀ (w : World), (Instr.typeAssert (.iface 113 (.agg #[.int .i64 c])) 20 113 true).run Try.prog w = .ok (.tuple #[.agg #[.int .i64 c], .bool true]) w := fun w => by kernel_rfl
  go_enter Try.func50, Try.ntmps50
  go_wp2
  go_end0
  exact ⟨rfl, rfl⟩
/-- what a deferred 'caught(recover(), &e)' does -/
structure Catches (G : FuncId) : Prop where
  idle : ∀ (B : Nat) (w : World), CallsDIn Fence.wide 0 Try.prog G #[.pointer (some ⟨B, 0, none⟩)] .returning w fun e u' w' => e = .returned (.tuple #[]) ∧ u' = .returning ∧ w' = w
  fail : ∀ (B : Nat) (c u : Int) (w : World), w.cell? ⟨B, 0, none⟩ = some (.int .i64 u) → w.frozen? ⟨B, 0, none⟩ = false → CallsDIn Fence.wide 0 Try.prog G #[.pointer (some ⟨B, 0, none⟩)] (.panicking (fail c)) w fun e u' w' => e = .returned (.tuple #[]) ∧ u' = .panicking [{ v := .iface 113 (.agg #[.int .i64 c]), recovered := true }] ∧ w' = caughtW B c w
theorem catches49 : Catches 49 := by
  constructor
  · intro B w
    refine callsDW Try.func49 rfl fun c₀ cs hu => ?_
    apply wpS_region
    simp [wpOpsS, go_sem, recoverD, hu, Try.ntmps49]
    refine (caught_nil _ w).mono ?_
    rintro e w' ⟨rfl, rfl⟩
    cases c₀
    simp_all [bodyPostS, results, Try.results49]
  · intro B c u w hc hf
    refine callsDW Try.func49 rfl fun c₀ cs hu => ?_
    apply wpS_region
    simp [wpOpsS, go_sem, recoverD, hu, Try.ntmps49, fail]
    refine (caught_fail B c u w hc hf).mono ?_
    rintro e w' ⟨rfl, rfl⟩
    simp [bodyPostS, results, Try.results49]
theorem catches59 : Catches 59 := by
  constructor
  · intro B w
    refine callsDW Try.func59 rfl fun c₀ cs hu => ?_
    apply wpS_region
    simp [wpOpsS, go_sem, recoverD, hu, Try.ntmps59]
    refine (caught_nil _ w).mono ?_
    rintro e w' ⟨rfl, rfl⟩
    cases c₀
    simp_all [bodyPostS, results, Try.results59]
  · intro B c u w hc hf
    refine callsDW Try.func59 rfl fun c₀ cs hu => ?_
    apply wpS_region
    simp [wpOpsS, go_sem, recoverD, hu, Try.ntmps59, fail]
    refine (caught_fail B c u w hc hf).mono ?_
    rintro e w' ⟨rfl, rfl⟩
    simp [bodyPostS, results, Try.results59]
theorem catches60 : Catches 60 := by
  constructor
  · intro B w
    refine callsDW Try.func60 rfl fun c₀ cs hu => ?_
    apply wpS_region
    simp [wpOpsS, go_sem, recoverD, hu, Try.ntmps60]
    refine (caught_nil _ w).mono ?_
    rintro e w' ⟨rfl, rfl⟩
    cases c₀
    simp_all [bodyPostS, results, Try.results60]
  · intro B c u w hc hf
    refine callsDW Try.func60 rfl fun c₀ cs hu => ?_
    apply wpS_region
    simp [wpOpsS, go_sem, recoverD, hu, Try.ntmps60, fail]
    refine (caught_fail B c u w hc hf).mono ?_
    rintro e w' ⟨rfl, rfl⟩
    simp [bodyPostS, results, Try.results60]
theorem catches65 : Catches 65 := by
  constructor
  · intro B w
    refine callsDW Try.func65 rfl fun c₀ cs hu => ?_
    apply wpS_region
    simp [wpOpsS, go_sem, recoverD, hu, Try.ntmps65]
    refine (caught_nil _ w).mono ?_
    rintro e w' ⟨rfl, rfl⟩
    cases c₀
    simp_all [bodyPostS, results, Try.results65]
  · intro B c u w hc hf
    refine callsDW Try.func65 rfl fun c₀ cs hu => ?_
    apply wpS_region
    simp [wpOpsS, go_sem, recoverD, hu, Try.ntmps65, fail]
    refine (caught_fail B c u w hc hf).mono ?_
    rintro e w' ⟨rfl, rfl⟩
    simp [bodyPostS, results, Try.results65]
theorem catches70 : Catches 70 := by
  constructor
  · intro B w
    refine callsDW Try.func70 rfl fun c₀ cs hu => ?_
    apply wpS_region
    simp [wpOpsS, go_sem, recoverD, hu, Try.ntmps70]
    refine (caught_nil _ w).mono ?_
    rintro e w' ⟨rfl, rfl⟩
    cases c₀
    simp_all [bodyPostS, results, Try.results70]
  · intro B c u w hc hf
    refine callsDW Try.func70 rfl fun c₀ cs hu => ?_
    apply wpS_region
    simp [wpOpsS, go_sem, recoverD, hu, Try.ntmps70, fail]
    refine (caught_fail B c u w hc hf).mono ?_
    rintro e w' ⟨rfl, rfl⟩
    simp [bodyPostS, results, Try.results70]
theorem catches73 : Catches 73 := by
  constructor
  · intro B w
    refine callsDW Try.func73 rfl fun c₀ cs hu => ?_
    apply wpS_region
    simp [wpOpsS, go_sem, recoverD, hu, Try.ntmps73]
    refine (caught_nil _ w).mono ?_
    rintro e w' ⟨rfl, rfl⟩
    cases c₀
    simp_all [bodyPostS, results, Try.results73]
  · intro B c u w hc hf
    refine callsDW Try.func73 rfl fun c₀ cs hu => ?_
    apply wpS_region
    simp [wpOpsS, go_sem, recoverD, hu, Try.ntmps73, fail]
    refine (caught_fail B c u w hc hf).mono ?_
    rintro e w' ⟨rfl, rfl⟩
    simp [bodyPostS, results, Try.results73]
theorem catches75 : Catches 75 := by
  constructor
  · intro B w
    refine callsDW Try.func75 rfl fun c₀ cs hu => ?_
    apply wpS_region
    simp [wpOpsS, go_sem, recoverD, hu, Try.ntmps75]
    refine (caught_nil _ w).mono ?_
    rintro e w' ⟨rfl, rfl⟩
    cases c₀
    simp_all [bodyPostS, results, Try.results75]
  · intro B c u w hc hf
    refine callsDW Try.func75 rfl fun c₀ cs hu => ?_
    apply wpS_region
    simp [wpOpsS, go_sem, recoverD, hu, Try.ntmps75, fail]
    refine (caught_fail B c u w hc hf).mono ?_
    rintro e w' ⟨rfl, rfl⟩
    simp [bodyPostS, results, Try.results75]
theorem catches78 : Catches 78 := by
  constructor
  · intro B w
    refine callsDW Try.func78 rfl fun c₀ cs hu => ?_
    apply wpS_region
    simp [wpOpsS, go_sem, recoverD, hu, Try.ntmps78]
    refine (caught_nil _ w).mono ?_
    rintro e w' ⟨rfl, rfl⟩
    cases c₀
    simp_all [bodyPostS, results, Try.results78]
  · intro B c u w hc hf
    refine callsDW Try.func78 rfl fun c₀ cs hu => ?_
    apply wpS_region
    simp [wpOpsS, go_sem, recoverD, hu, Try.ntmps78, fail]
    refine (caught_fail B c u w hc hf).mono ?_
    rintro e w' ⟨rfl, rfl⟩
    simp [bodyPostS, results, Try.results78]
theorem catches81 : Catches 81 := by
  constructor
  · intro B w
    refine callsDW Try.func81 rfl fun c₀ cs hu => ?_
    apply wpS_region
    simp [wpOpsS, go_sem, recoverD, hu, Try.ntmps81]
    refine (caught_nil _ w).mono ?_
    rintro e w' ⟨rfl, rfl⟩
    cases c₀
    simp_all [bodyPostS, results, Try.results81]
  · intro B c u w hc hf
    refine callsDW Try.func81 rfl fun c₀ cs hu => ?_
    apply wpS_region
    simp [wpOpsS, go_sem, recoverD, hu, Try.ntmps81, fail]
    refine (caught_fail B c u w hc hf).mono ?_
    rintro e w' ⟨rfl, rfl⟩
    simp [bodyPostS, results, Try.results81]
theorem catches83 : Catches 83 := by
  constructor
  · intro B w
    refine callsDW Try.func83 rfl fun c₀ cs hu => ?_
    apply wpS_region
    simp [wpOpsS, go_sem, recoverD, hu, Try.ntmps83]
    refine (caught_nil _ w).mono ?_
    rintro e w' ⟨rfl, rfl⟩
    cases c₀
    simp_all [bodyPostS, results, Try.results83]
  · intro B c u w hc hf
    refine callsDW Try.func83 rfl fun c₀ cs hu => ?_
    apply wpS_region
    simp [wpOpsS, go_sem, recoverD, hu, Try.ntmps83, fail]
    refine (caught_fail B c u w hc hf).mono ?_
    rintro e w' ⟨rfl, rfl⟩
    simp [bodyPostS, results, Try.results83]
theorem catches91 : Catches 91 := by
  constructor
  · intro B w
    refine callsDW Try.func91 rfl fun c₀ cs hu => ?_
    apply wpS_region
    simp [wpOpsS, go_sem, recoverD, hu, Try.ntmps91]
    refine (caught_nil _ w).mono ?_
    rintro e w' ⟨rfl, rfl⟩
    cases c₀
    simp_all [bodyPostS, results, Try.results91]
  · intro B c u w hc hf
    refine callsDW Try.func91 rfl fun c₀ cs hu => ?_
    apply wpS_region
    simp [wpOpsS, go_sem, recoverD, hu, Try.ntmps91, fail]
    refine (caught_fail B c u w hc hf).mono ?_
    rintro e w' ⟨rfl, rfl⟩
    simp [bodyPostS, results, Try.results91]
theorem catches96 : Catches 96 := by
  constructor
  · intro B w
    refine callsDW Try.func96 rfl fun c₀ cs hu => ?_
    apply wpS_region
    simp [wpOpsS, go_sem, recoverD, hu, Try.ntmps96]
    refine (caught_nil _ w).mono ?_
    rintro e w' ⟨rfl, rfl⟩
    cases c₀
    simp_all [bodyPostS, results, Try.results96]
  · intro B c u w hc hf
    refine callsDW Try.func96 rfl fun c₀ cs hu => ?_
    apply wpS_region
    simp [wpOpsS, go_sem, recoverD, hu, Try.ntmps96, fail]
    refine (caught_fail B c u w hc hf).mono ?_
    rintro e w' ⟨rfl, rfl⟩
    simp [bodyPostS, results, Try.results96]
theorem enters_fn {G : FuncId} (hG : ∀ args w, (callFunc G args).run Try.prog w = .ok (.enter G args) w) (B : Nat) (w : World) : (invoke (.fn (.func G) #[.pointer (some ⟨B, 0, none⟩)]) #[]).run Try.prog w = .ok (.enter G #[.pointer (some ⟨B, 0, none⟩)]) w := by
  simp [invoke, go_sem, hG]
def catchD (G : FuncId) (B : Nat) : Deferred := { target := .fn (.func G) #[.pointer (some ⟨B, 0, none⟩)], args := #[] }
theorem leaves_idle {G : FuncId} (hG : Catches G) (eG : ∀ args w, (callFunc G args).run Try.prog w = .ok (.enter G args) w) {fn : Func} {tmps : Array Value} {R : Ending → World → Prop} {B : Nat} {w : World}
    (h : ∃ v, (results fn tmps).run Try.prog w = .ok v w ∧ R (.returned v) w) : LeavesInM Fence.wide 0 Try.prog fn tmps R [catchD G B] .returning w := by
  refine ⟨by simp, .inr ⟨(fun h => by cases h), _, _, G, _, rfl, enters_fn eG B w, fun _ _ => trivial, (hG.idle B w).mono ?_⟩⟩
  rintro e u' w' ⟨rfl, rfl, rfl⟩
  exact h
theorem leaves_fail {G : FuncId} (hG : Catches G) (eG : ∀ args w, (callFunc G args).run Try.prog w = .ok (.enter G args) w) {fn : Func} {tmps : Array Value} {R : Ending → World → Prop} {B : Nat} {c u : Int} {w : World}
    (hc : w.cell? ⟨B, 0, none⟩ = some (.int .i64 u)) (hf : w.frozen? ⟨B, 0, none⟩ = false)
    (h : ∃ v, (results fn tmps).run Try.prog (caughtW B c w) = .ok v (caughtW B c w) ∧ R (.returned v) (caughtW B c w)) : LeavesInM Fence.wide 0 Try.prog fn tmps R [catchD G B] (.panicking (fail c)) w := by
  refine ⟨by simp [fail], .inr ⟨(fun h => by cases h), _, _, G, _, rfl, enters_fn eG B w, fun _ _ => trivial, (hG.fail B c u w hc hf).mono ?_⟩⟩
  rintro e u' w' ⟨rfl, rfl, rfl⟩
  exact h
theorem enters49 : ∀ args w, (callFunc 49 args).run Try.prog w = .ok (.enter 49 args) w := enters_of Try.func49 (by kernel_rfl) rfl
theorem enters59 : ∀ args w, (callFunc 59 args).run Try.prog w = .ok (.enter 59 args) w := enters_of Try.func59 (by kernel_rfl) rfl
theorem enters60 : ∀ args w, (callFunc 60 args).run Try.prog w = .ok (.enter 60 args) w := enters_of Try.func60 (by kernel_rfl) rfl
theorem enters65 : ∀ args w, (callFunc 65 args).run Try.prog w = .ok (.enter 65 args) w := enters_of Try.func65 (by kernel_rfl) rfl
theorem enters70 : ∀ args w, (callFunc 70 args).run Try.prog w = .ok (.enter 70 args) w := enters_of Try.func70 (by kernel_rfl) rfl
theorem enters73 : ∀ args w, (callFunc 73 args).run Try.prog w = .ok (.enter 73 args) w := enters_of Try.func73 (by kernel_rfl) rfl
theorem enters75 : ∀ args w, (callFunc 75 args).run Try.prog w = .ok (.enter 75 args) w := enters_of Try.func75 (by kernel_rfl) rfl
theorem enters78 : ∀ args w, (callFunc 78 args).run Try.prog w = .ok (.enter 78 args) w := enters_of Try.func78 (by kernel_rfl) rfl
theorem enters81 : ∀ args w, (callFunc 81 args).run Try.prog w = .ok (.enter 81 args) w := enters_of Try.func81 (by kernel_rfl) rfl
theorem enters83 : ∀ args w, (callFunc 83 args).run Try.prog w = .ok (.enter 83 args) w := enters_of Try.func83 (by kernel_rfl) rfl
theorem enters91 : ∀ args w, (callFunc 91 args).run Try.prog w = .ok (.enter 91 args) w := enters_of Try.func91 (by kernel_rfl) rfl
theorem enters96 : ∀ args w, (callFunc 96 args).run Try.prog w = .ok (.enter 96 args) w := enters_of Try.func96 (by kernel_rfl) rfl
def ReturnsErr (c : Int) (w : World) (e : Ending) (w' : World) : Prop := e = .returned (.int .i64 c) ∧ Below w.heap.size w w'
theorem caughtW_cell {B : Nat} {c u : Int} {w : World} (hc : w.cell? ⟨B, 0, none⟩ = some (.int .i64 u)) : (caughtW B c w).cell? ⟨B, 0, none⟩ = some (.int .i64 c) := by
  have h1 : (w.setCell ⟨B, 0, none⟩ (.int .i64 c)).cell? ⟨B, 0, none⟩ = some (.int .i64 c) := World.cell?_setCell_same' _ _ _ (by rw [hc]; rfl)
  exact cell_grow h1 ((Below.refl _ _).alloc (Nat.le_refl _) _)
theorem caughtW_other {B : Nat} {c : Int} {w : World} {k : Nat} {o : Obj} (hne : k ≠ B) (h : w.heap[k]? = some o) : (caughtW B c w).heap[k]? = some o := alloc_old (heap_set_other hne h)
theorem caughtW_below {w0 w : World} {B : Nat} {c : Int} (h : Below w0.heap.size w0 w) (hB : w0.heap.size ≤ B) : Below w0.heap.size w0 (caughtW B c w) :=
  (h.setCell (p := ⟨B, 0, none⟩) hB _).alloc (by simpa using h.size) _
theorem Check_any (A : Option Addr) (c : Nat) (l : List S82) (fl tg : Int) (w : World) (hr : Kd.C k82 w A l.length l) :
    Calls Try.prog 17 #[.agg #[.slice A l.length c, .int .i64 fl, .int .i64 tg]] w (ReturnsErr (checkOf l fl tg) w) := by
  have HB := Below.refl w.heap.size w
  have hmf := makeFunc_any
  refine calls_of_wpF Try.func17 rfl (wpF_of_wp ?_)
  simp only [Try.ntmps17, List.size_toArray, List.length_cons, List.length_nil, Nat.reduceAdd, Nat.reduceSub, Array.replicate_succ, Array.replicate_zero, List.push_toArray, List.append_toArray, List.nil_append, List.cons_append]
  go_wp2_with fail
  refine (check_any A c l fl tg _ (Kd.C_below hr ((HB.alloc (Nat.le_refl _) _).alloc (by simp) _))).mono ?_
  rintro e w' ⟨he, hb⟩
  have hc : w'.cell? ⟨w.heap.size + 1, 0, none⟩ = some (.int .i64 0) := cell_grow (by simp) hb
  have hf : w'.frozen? ⟨w.heap.size + 1, 0, none⟩ = false := frozen_grow (v := .int .i64 0) (by simp) (by simp) hb
  have hB := hid (((HB.alloc (Nat.le_refl _) (.cells #[.slice A l.length c, .int .i64 fl, .int .i64 tg] 24)).alloc (by simp) (.cells #[.int .i64 0] 36)).trans (hb.mono (by simp; omega)))
  clear hb HB
  by_cases h0 : checkOf l fl tg = 0
  · rw [if_pos h0] at he
    subst he
    have H0 := hid h0
    clear h0
    go_wp2
    refine leaves_idle catches59 enters59 ?_
    exact ⟨.int .i64 0, by simp [results, Try.results17, go_sem, hc], by rw [H0.out], hB.out.setCell (p := ⟨w.heap.size + 1, 0, none⟩) (by simp) _⟩
  · rw [if_neg h0] at he
    subst he
    refine leaves_fail catches59 enters59 hc hf ?_
    exact ⟨.int .i64 (checkOf l fl tg), by simp [results, Try.results17, go_sem, caughtW_cell hc], rfl, caughtW_below hB.out (by simp)⟩
end Go.Proofs.Ythoofldinnfpiaa
